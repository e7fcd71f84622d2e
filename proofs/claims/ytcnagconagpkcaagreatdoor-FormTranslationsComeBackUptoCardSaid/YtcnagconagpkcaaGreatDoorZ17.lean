/- Lemmas. -/
import Derived.Test.YtcnagconagpkcaaGreatDoorZ16
import Derived.Test.YtcnagconagpkcaaGreatDoorZ10
import Derived.Maps.AppendAt
open Go.Value renaming int->bL, string->bO, slice->bP, pointer->bR, bool->bS, oneCell'->ca
open Go.IntKind renaming i64->bN
open Go.Ending renaming returned->bX
open Nat renaming le_refl->b0, zero_le->b3, le_trans->b6, not_lt_zero->ck, lt_of_lt_of_le->ct
open And renaming intro->b1
open List renaming length_append->b2, length_drop->b4, length_cons->b7, drop_eq_getElem_cons->cb, drop_eq_nil_of_le->cc, mem_cons->cf, getElem_mem->cg, nil_append->cj, length_tail->cn, length_eq_zero_iff->cq, mem_append->cr, drop_length->cu
open Option renaming map->b5
open Decidable renaming byContradiction->ce
set_option maxHeartbeats 4000000
set_option maxRecDepth 100000
namespace Go.Proofs.YtcnagconagpkcaaGreatDoor
open Tryz
open Tryz renaming prog->lM
section
open Go.RowKit Vtx
attribute [local go_sem ↓] Go.wp_at_zero Go.wp_at_succ
def aex (w:World) (p:Ex × Nat × Int) (e:Ending) (w':World):Prop:=
 ∃ A1 c1 A2 c2,e = bX (.tuple #[.agg (aA p.1 A1 c1 A2 c2).toArray,bL bN (p.2.1:Nat),bL bN p.2.2])/\bY w' (λ b=>w.heap.size<=b) w'.heap.size p.1 (aA p.1 A1 c1 A2 c2)/\DD w w'
theorem Kr (w:World) (p:Nat->Prop):bY w p w.heap.size (.mk 0 0 ⟨#[]⟩ jb []) (aA (.mk 0 0 ⟨#[]⟩ jb []) none 0 none 0):=
 bY.mk (e:=.mk 0 0 ⟨#[]⟩ jb []) (cs:=[]) (show 0<=maxLen from b3 _) (show 0<=maxLen from b3 _) (show 0<=maxLen from b3 _) (show 0<=maxLen from b3 _) ⟨Reads.none_,λ _ ad e=>by cases e⟩ ⟨Reads.none_,λ _ ad e=>by cases e⟩ (λ i a=>absurd a (by simp[Ex.ar]))
theorem ui {w w':World} {at_:Nat} {f:Int} (a:DD w w'):aex w (.mk 0 0 ⟨#[]⟩ jb [],at_,f) (bX (.tuple #[.agg #[bL bN 0,bL bN 0,bO ⟨#[]⟩,bL bN 0,bL bN 0,bO ⟨#[]⟩,bP none 0 0,bP none 0 0],bL bN (at_:Nat),bL bN f])) w':=
 ⟨none,0,none,0,rfl,Kr w' _,a⟩
theorem pM {w w':World} (h:DD w w') (v0 v1 v2 v3 a v5 v6 v7:Value):DD w (kR w' w.heap.size v0 v1 v2 v3 a v5 v6 v7):=
 (((((((h.setCell (p:=⟨w.heap.size,0,none⟩) (b0 _) _).setCell (p:=⟨w.heap.size,1,none⟩) (b0 _) _).setCell (p:=⟨w.heap.size,2,none⟩) (b0 _) _).setCell (p:=⟨w.heap.size,3,none⟩) (b0 _) _).setCell (p:=⟨w.heap.size,4,none⟩) (b0 _) _).setCell (p:=⟨w.heap.size,5,none⟩) (b0 _) _).setCell (p:=⟨w.heap.size,6,none⟩) (b0 _) _).setCell (p:=⟨w.heap.size,7,none⟩) (b0 _) _
theorem Jb (s:List UInt8) (h:s.length<=4000):kM s=(match Pz s.length .or [] (wordsOf s 0) with
  | .err k=>(.mk 0 0 ⟨#[]⟩ jb [],k,10)
  | .ok _ (t :: _)=>(.mk 0 0 ⟨#[]⟩ jb [],t.at_,10)
  | .ok es []=>if dR (es.getD 0 (.mk 0 0 ⟨#[]⟩ jb []))≠0 then (.mk 0 0 ⟨#[]⟩ jb [],0,dR (es.getD 0 (.mk 0 0 ⟨#[]⟩ jb []))) else (es.getD 0 (.mk 0 0 ⟨#[]⟩ jb []),0,0)):=by
 unfold kM;rw[if_neg (by omega),Vt];obtain⟨r,a⟩:=af (Pz s.length .or [] (wordsOf s 0));rw[a];cases r with
 | err k=>rfl
 | ok es l=>cases l <;> rfl
theorem V8 (s:ByteArray) (w:World) (al:s.size<=maxLen) (i:Tab w) (P:Mx w) (hp:s.size<=4000->∀ x,Pz s.data.toList.length .or [] (wordsOf s.data.toList 0) = .ok [x] []->x.parts<=100000000) :
  Calls lM 209 #[bO s] w λ e w'=>aex w (kM s.data.toList) e w':=by
 have jU:=qh (b1 i P);clear i P;by_cases I:s.size<=4000
 .have n:=qh (Jb s.data.toList (by rw[aN];exact I));have K:=qh (hp I);obtain⟨R,L⟩:=af (kM s.data.toList);rw[L] at n ⊢;obtain⟨r,hr⟩:=af (Pz s.data.toList.length .or [] (wordsOf s.data.toList 0));have HC:=qh (λ W i P=>V7 s W I i P);rw[hr] at n HC K;have aa:¬ (4000:Int)<((s.size:Nat):Int):=by omega
  clear L hr hp;go_enter func209,ntmps209;go_upto_region 1 with (fail);obtain⟨W,J,-,H,ak,-,g⟩:=Y6 0 w;rw[<- J];clear J;go_wp2_with fail;refine (HC.o W (jU.o.1.below g) (jU.o.2.below g)).mono ?_;intro e G F;cases r with
  | err k =>
   obtain⟨rfl,d⟩:=F;have c:R=(.mk 0 0 ⟨#[]⟩ jb [],k,10):=n.o;have qP:=qh c;have A:=g.trans (d.mono g.size);have E:=H.o.below d H.o.lt;clear c d;go_upto_region 4 with (fail);obtain⟨W1,a⟩:=aG (G.alloc (.cells #[bL bN 0,bL bN 0,bO ⟨#[]⟩,bL bN 0,bL bN 0,bO ⟨#[]⟩,bP none 0 0,bP none 0 0] 67 (0,0)));have m:DD w W1:=by rw[a];exact A.alloc A.size _
   have h:ZB W1 w.heap.size:=by rw[a];exact E.alloc _
   rw[<- a];clear a;obtain⟨u,X,p,T,z,S,C,O,q,V,y,U,B,N,o,Q⟩:=ah.z8 h;go_wp2_with fail;refine bodyPost_ret (v:=.tuple #[.agg #[bL bN 0,bL bN 0,bO ⟨#[]⟩,bL bN 0,bL bN 0,bO ⟨#[]⟩,bP none 0 0,bP none 0 0],bL bN (k:Nat),bL bN 10]) (by simp[results,results209,go_sem,u,p,z,C,q,y,B,o]) rfl ?_;rw[qP.o];exact ui (pM m _ _ _ _ _ _ _ _)
  | ok es l =>
   cases l with
   | cons t l =>
    obtain⟨rfl,d⟩:=F;have c:R=(.mk 0 0 ⟨#[]⟩ jb [],t.at_,10):=n.o;have qP:=qh c;have A:=g.trans (d.mono g.size);have E:=H.o.below d H.o.lt;clear c d;go_upto_region 4 with (fail);obtain⟨W1,a⟩:=aG (G.alloc (.cells #[bL bN 0,bL bN 0,bO ⟨#[]⟩,bL bN 0,bL bN 0,bO ⟨#[]⟩,bP none 0 0,bP none 0 0] 67 (0,0)));have m:DD w W1:=by rw[a];exact A.alloc A.size _
    have h:ZB W1 w.heap.size:=by rw[a];exact E.alloc _
    rw[<- a];clear a;obtain⟨u,X,p,T,z,S,C,O,q,V,y,U,B,N,o,Q⟩:=ah.z8 h;go_wp2_with fail;refine bodyPost_ret (v:=.tuple #[.agg #[bL bN 0,bL bN 0,bO ⟨#[]⟩,bL bN 0,bL bN 0,bO ⟨#[]⟩,bP none 0 0,bP none 0 0],bL bN (t.at_:Nat),bL bN 10]) (by simp[results,results209,go_sem,u,p,z,C,q,y,B,o]) rfl ?_;rw[qP.o];exact ui (pM m _ _ _ _ _ _ _ _)
   | nil =>
    obtain⟨x,cs,rfl,rfl,hx,d⟩:=F;have ad:=K.o x rfl;have HX:=qh hx;obtain⟨hn,I,hl,ha,Y,ae,ab⟩:=hx;rename_i A1 c1 A2 c2 am;clear Y ae ab hn I hl ha;rw[show (aA x A1 c1 A2 c2).toArray = (Ag x A1 c1 A2 x.ar.length c2) from rfl];have A:=g.trans (d.mono g.size);have ac:=qh (H.o.below d H.o.lt);have ag:W.heap.size<=G.heap.size:=d.size;clear d;go_upto_region 4 with (fail);obtain⟨W1,a⟩:=aG (G.alloc (.cells (Ag x A1 c1 A2 x.ar.length c2) 67 (0,0)));have m:DD w W1:=by rw[a];exact A.alloc A.size _
    have OA:=qh (show ZB W1 w.heap.size by rw[a];exact ac.o.alloc _);have LX:=qh (show ah W1 G.heap.size 67 (Ag x A1 c1 A2 x.ar.length c2) by rw[a];exact ah.new G _ _);have M:=qh (show bY W1 (λ b=>W.heap.size<=b) W1.heap.size x (aA x A1 c1 A2 c2) by
     rw[a];exact (HX.o.keep (aK.of ((Below.refl _ _).alloc (b0 _) _))).up (by simp))
    rw[<- a];clear a A;have BX:=LX.o;obtain⟨iE,iF,iG,iH,iI,iJ,iK,gX⟩:=ah.c8 BX;go_wp2_with fail;refine (mX x W1.heap.size (aA x A1 c1 A2 c2) W1 M.o.at_ (b0 _) ad).mono ?_;rintro e w2 ⟨rfl,j⟩;obtain⟨f,hf⟩:=af (dR x);have n:=qh (show R=if f≠0 then (.mk 0 0 ⟨#[]⟩ jb [],0,f) else (x,0,0) from by rw[n.o];show (if dR x≠0 then (((.mk 0 0 ⟨#[]⟩ jb []:Ex),0,dR x):Ex × Nat × Int) else (x,0,0))=_;rw[hf]);rw[hf];have D:=m.trans (j.mono m.size);have h:=OA.o.below j OA.o.lt;have Z:=LX.o.below j LX.o.lt;have PV:=qh ((M.o.keep (aK.of j)).up j.size);clear hf j iE iF iG iH iI iJ iK gX BX;by_cases hf0:f=0
    .subst hf0;have c:R=(x,0,0):=by rw[n.o,if_neg (by decide)]
     obtain⟨iE,iF,iG,iH,iI,iJ,iK,gX⟩:=ah.c8 Z;obtain⟨u,X,p,T,z,S,C,O,q,V,y,U,B,N,o,Q⟩:=ah.z8 h;go_wp2_with fail;refine bodyPost_ret (v:=.tuple #[.agg (Ag x A1 c1 A2 x.ar.length c2),bL bN 0,bL bN 0]) (by simp[results,results209,go_sem,u,p,z,C,q,y,B,o]) rfl ?_;rw[c];exact⟨A1,c1,A2,c2,rfl,(DZ (b:=w.heap.size) PV.o (λ k hk=>by omega) (bL bN x.k) (bL bN x.op) (bO x.nm) (bL bN x.v.k) (bL bN x.v.n) (bO x.v.s) (bP A1 x.v.l.length c1) (bP A2 x.ar.length c2)).imp (λ k hk _=>by omega),pM D _ _ _ _ _ _ _ _⟩
    .have bf:(f == 0)=false:=by simp[hf0]
     have c:R=(.mk 0 0 ⟨#[]⟩ jb [],0,f):=by rw[n.o,if_pos hf0]
     obtain⟨u,X,p,T,z,S,C,O,q,V,y,U,B,N,o,Q⟩:=ah.z8 h;go_wp2_with fail;refine bodyPost_ret (v:=.tuple #[.agg #[bL bN 0,bL bN 0,bO ⟨#[]⟩,bL bN 0,bL bN 0,bO ⟨#[]⟩,bP none 0 0,bP none 0 0],bL bN 0,bL bN f]) (by simp[results,results209,go_sem,u,p,z,C,q,y,B,o]) rfl ?_;rw[c];exact ui (at_:=0) (pM D _ _ _ _ _ _ _ _)
 .have n:=qh (show kM s.data.toList=(.mk 0 0 ⟨#[]⟩ jb [],0,2) by unfold kM;rw[if_pos (by rw[aN];omega)]);have aa:(4000:Int)<((s.size:Nat):Int):=by omega
  obtain⟨R,L⟩:=af (kM s.data.toList);rw[L] at n ⊢;clear L hp;go_enter func209,ntmps209;go_upto_region 1 with (fail);obtain⟨W,J,-,h,-,-,g⟩:=mV 0 w;rw[<- J];clear J;obtain⟨u,X,p,T,z,S,C,O,q,V,y,U,B,N,o,Q⟩:=ah.z8 h;go_wp2_with fail;refine bodyPost_ret (v:=.tuple #[.agg #[bL bN 0,bL bN 0,bO ⟨#[]⟩,bL bN 0,bL bN 0,bO ⟨#[]⟩,bP none 0 0,bP none 0 0],bL bN 0,bL bN 2]) (by simp[results,results209,go_sem,u,p,z,C,q,y,B,o]) rfl ?_;rw[n.o];exact ui (at_:=0) (pM g _ _ _ _ _ _ _ _)
end
section
open Go.RowKit
def zeroE:Ex:=.mk 0 0 ⟨#[]⟩ jb []
def C9 (w:World) (q:Nat->Prop) (p:Bool × Ex) (cs:List Value):Prop:=
 ∃ (t:ByteArray) (es:List Value),cs = [bO t,bS p.1] ++ es/\bY w q w.heap.size p.2 es
theorem C9.keep {w w':World} {q q':Nat->Prop} {p:Bool × Ex} {cs:List Value} (h:C9 w q p cs) (a:aK q w w') (c:∀ k,q k->k<w.heap.size->q' k):C9 w' q' p cs:=by
 obtain⟨t,d,e,b⟩:=h;exact⟨t,d,e,((b.keep a).imp c).up a.1⟩
def apart (B:Nat) (v vp:Value) (b:Nat):Prop:=B<=b/\v.ownBlock≠some b/\vp.ownBlock≠some b
structure G9 (B:Nat) (w:World) (v:Value) (P:List (Bool × Ex)) (vp:Value) (acc:List UInt8):Prop where
 row:∃ cs,w.ownsRow B 266 10 v P.length cs/\∀ i (h:i<P.length),C9 w (apart B v vp) P[i] ((cs.drop (i*10)).take 10)
 pl:w.ownsRow B 5 1 vp acc.length (jB acc)
section
variable {w w':World} {B:Nat} {v v' vp vp':Value} {P:List (Bool × Ex)} {acc acc':List UInt8}
theorem G9.nil:G9 B w (bP none 0 0) [] (bP none 0 0) []:=
 ⟨⟨[],World.ownsRow_nil _ _ _ _,λ i h=>by cases h⟩,World.ownsRow_nil _ _ _ _⟩
theorem G9.later (h:G9 B w v P vp acc) (a:DD w w'):G9 B w' v P vp acc:=by
 obtain⟨⟨cs,e,c⟩,f⟩:=h;exact⟨⟨cs,aQ e a,λ i b=>(c i b).keep (aK.of a) (λ _ d _=>d)⟩,aQ f a⟩
theorem G9.plain (h:G9 B w v P vp acc) (c:w.grownBy w' vp.ownBlock) (j:w'.ownsRow B 5 1 vp' acc'.length (jB acc')) (b:vp'.ownBlock=vp.ownBlock\/vp'.ownBlock=some w.heap.size):G9 B w' v P vp' acc':=by
 obtain⟨⟨cs,l,g⟩,m⟩:=h;refine⟨⟨cs,ry l m (by decide) c,λ i f=>(g i f).keep (aK.grown c (λ k a e=>a.2.2 e.symm)) (λ k a n=>⟨a.1,a.2.1,?_⟩)⟩,j⟩;rcases b with e | e
 .rw[e];exact a.2.2
 .rw[e];intro d;injection d with d;omega
theorem G9.empty (h:G9 B w v P vp acc):G9 B w v P (bP none 0 0) []:=by
 obtain⟨⟨cs,d,c⟩,-⟩:=h;exact⟨⟨cs,d,λ i b=>(c i b).keep (aK.of (Below.refl _ _)) (λ k a _=>⟨a.1,a.2.1,by simp[Value.ownBlock]⟩)⟩,World.ownsRow_nil _ _ _ _⟩
theorem G9.push (h:G9 B w v P vp acc) {Q:List (Bool × Ex)} {ds:List Value} {cs:List Value} (c:w.ownsRow B 266 10 v P.length cs) (j:∀ i (h:i<P.length),C9 w (apart B v vp) P[i] ((cs.drop (i*10)).take 10)) (o:ds.length=Q.length*10)
  (l:∀ i (h:i<Q.length),C9 w (apart B v vp) Q[i] ((ds.drop (i*10)).take 10)) (f:w.grownBy w' v.ownBlock) (m:w'.ownsRow B 266 10 v' (P.length+Q.length) (cs ++ ds)) (b:v'.ownBlock=v.ownBlock\/v'.ownBlock=some w.heap.size):G9 B w' v' (P ++ Q) vp acc:=by
 have q:cs.length=P.length*10:=c.1;have a:∀ {p:Bool × Ex} {xs:List Value},C9 w (apart B v vp) p xs->C9 w' (apart B v' vp) p xs:=λ n=>n.keep (aK.grown f (λ k a e=>a.2.1 e.symm)) (λ k a r=>⟨a.1,by
  rcases b with e | e
  .rw[e];exact a.2.1
  .rw[e];intro d;injection d with d;omega,a.2.2⟩)
 refine⟨⟨cs ++ ds,by rw[b2];exact m,λ i g=>?_⟩,ry h.pl c (by decide) f⟩;rw[b2] at g;by_cases hlt:i<P.length
 .rw[List.getElem_append_left hlt,List.drop_append_of_le_length (by omega),List.take_append_of_le_length (by rw[b4];omega)];exact a (j i hlt)
 .have e:(cs ++ ds).drop (i*10)=ds.drop ((i - P.length)*10):=by
   rw[List.drop_append,cc (by omega),cj,q,<- Nat.sub_mul]
  rw[List.getElem_append_right (by omega),e];exact a (l (i - P.length) (by omega))
end
def Rt (w:World) (B:Nat) (p:Bool × Ex) (cs:List Value):Prop:=∃ (t:ByteArray) (es:List Value),cs = [bO t,bS p.1] ++ es/\bC w B p.2 es
theorem G9.at_ {w:World} {B n c:Nat} {A:Option Addr} {P:List (Bool × Ex)} {vp:Value} {acc:List UInt8} (h:G9 B w (bP A n c) P vp acc) (q:P.length<=maxLen):aF Rt 10 w w.heap.size A P:=by
 obtain⟨⟨cs,a,k⟩,-⟩:=h;have m:n=P.length:=by
  rcases a.2 with ⟨p,o⟩ | ⟨r,f,b,l,-⟩
  .injection p with _ h4 _;rw[h4,o]
  .injection l with _ h4 _
 subst m;refine⟨q,cs,Reads.fB a,λ i d=>?_⟩;obtain⟨t,g,e,j⟩:=k i d;exact⟨t,g,e,j.at_⟩
def bT (P:List (Bool × Ex)):List Ex:=(P.filter (λ p=>p.1)).map (λ p=>p.2)
theorem vV (P Q:List (Bool × Ex)):bT (P ++ Q)=bT P ++ bT Q:=by unfold bT;rw[List.filter_append,List.map_append]
end
section
theorem kZ:∀ (f a:Nat) (r:List UInt8),r.length<f->r.length<a->qJ f r=qJ a r
 | 0,_,_,h,_=>absurd h (ck _)
 | _+1,0,_,_,h=>absurd h (ck _)
 | f+1,a+1,[],_,_=>by simp only[qJ]
 | f+1,a+1,c :: r,h,h'=>by
  simp only[b7] at h h';have b:=kZ f a r (by omega) (by omega);have d:=kZ f a (r.drop 1) (by rw[b4];omega) (by rw[b4];omega);have e3:=λ k=>kZ f a (r.drop (k+1)) (by rw[b4];omega) (by rw[b4];omega);simp only[qJ,b,d,e3]
noncomputable def jM (r:List UInt8):Option (List Ex):=qJ (r.length+1) r
theorem V9 (s:ByteArray):uV s=jM s.data.toList:=by
 unfold uV jM;exact kZ _ _ _ (by simp) (by simp)
theorem OU (c:UInt8) (r:List UInt8):jM (c :: r)=if c≠123/\c≠125 then jM r else if r.head?=some c then jM (r.drop 1) else if c=125 then none else
  match o9 r false 0 with
  | none=>none
  | some k=>if (kM (r.take k)).2.2≠0 then none else (jM (r.drop (k+1))).map ((kM (r.take k)).1 :: ·):=by
 unfold jM;rw[b7,qJ];have a:=kZ (r.length+1) ((r.drop 1).length+1) (r.drop 1) (by rw[b4];omega) (by omega);have e3:=λ k=>kZ (r.length+1) ((r.drop (k+1)).length+1) (r.drop (k+1)) (by rw[b4];omega) (by omega);simp only[a,e3];cases o9 r false 0 <;> rfl
theorem Ru {s:ByteArray} {j:Nat} (h:j<s.size):jM (s.data.toList.drop j)=if s[j]≠123/\s[j]≠125 then jM (s.data.toList.drop (j+1)) else if (s.data.toList.drop (j+1)).head?=some s[j] then jM (s.data.toList.drop (j+2)) else if s[j]=125 then none else
  match o9 (s.data.toList.drop (j+1)) false 0 with
  | none=>none
  | some k=>if (kM ((s.data.toList.drop (j+1)).take k)).2.2≠0 then none else (jM (s.data.toList.drop (j+1+k+1))).map ((kM ((s.data.toList.drop (j+1)).take k)).1 :: ·):=by
 have a:j<s.data.toList.length:=by simpa using h
 rw[cb a,OU];simp only[List.drop_drop];rfl
theorem We (s:ByteArray):jM (s.data.toList.drop s.size)=some []:=by
 rw[cc (by simp)];rfl
theorem D5:∀ (r:List UInt8) (q:Bool) (m k:Nat),o9 r q m=some k->m<=k/\k<m+r.length
 | [],_,_,_,h=>by simp[o9] at h
 | c :: r,q,m,k,h=>by
  rw[o9] at h;simp only[b7];split at h
  .have:=D5 r _ _ _ h;omega
  .split at h
   .have:=D5 r _ _ _ h;omega
   .split at h
    .injection h with h;omega
    .split at h
     .cases h
     .have:=D5 r _ _ _ h;omega
open Vtx Go.Lib
theorem kS:∀ a b:List Ex,aJ (a ++ b)=aJ a+aJ b
 | [],b=>by rw[cj,aJ];omega
 | x :: r,b=>by rw[List.cons_append,aJ,aJ,kS r b];omega
theorem dJ (x:Ex):aJ [x]=x.parts:=by rw[aJ,aJ];omega
theorem pO (o:Int) (l:List Ex):(jF o l).parts=aJ l+1:=parts_eq _
theorem uj (k o:Int) (nm:List UInt8) (l:List Ex):(iy k o nm l).parts=aJ l+1:=parts_eq _
theorem Dc (v:Val):(jW v).parts=1:=by rw[parts_eq];show aJ []+1=1;rw[aJ]
theorem yA:aJ []=0:=by rw[aJ]
theorem Gh (o:Int) (l:List Ex):aJ (CG o l)<=aJ l+1:=by
 unfold CG;split
 .rw[dJ];omega
 .rw[dJ,pO];omega
theorem fF {r:uT} {k:List Ex->List Tok->uT} {c:List Ex} {l':List Tok} (h:r.bind k = .ok c l'):∃ a b,r = .ok a b/\k a b = .ok c l':=by
 cases r with
 | err p=>cases h
 | ok a b=>exact⟨a,b,rfl,h⟩
theorem zB {l:List Tok} {w:List UInt8} (h:lG l w=true):l.tail.length+1=l.length:=by
 cases l with
 | nil=>cases h
 | cons t r=>rfl
theorem rO {n:Nat} {w:List UInt8} {l:List Tok} {k:List Tok->uT} {a:List Ex} {l':List Tok} (h:dG n w l k = .ok a l'):l.tail.length+1=l.length/\k l.tail = .ok a l':=by
 unfold dG at h;split at h
 .rename_i b;exact⟨zB b,h⟩
 .cases h
theorem Gi {a b:Int} {l:List Tok} (h:fU a b l≠0):l.tail.length+1=l.length:=by
 cases l with
 | nil=>exact absurd rfl (FQ h)
 | cons t r=>rfl
def qQ:NT->Nat
 | .or=>2
 | .args _=>2
 | .and=>3
 | .UJ=>0
 | .AV=>0
 | .Dp=>0
 | .ji=>0
 | .oW _=>0
 | _=>4
def qR (nt:NT) (acc:List Ex):Nat:=match nt with
 | .UJ=>aJ acc+1
 | .AV=>aJ acc+1
 | .Dp=>aJ acc
 | .ji=>aJ acc
 | .oW _=>aJ acc
 | _=>0
theorem TN (n:Nat):∀ (f:Nat) (s:NT) (acc:List Ex) (l:List Tok) (v:List Ex) (x:List Tok),P n f s acc l = .ok v x->aJ v+qQ s+6*x.length<=qR s acc+6*l.length
 | 0,_,_,_,_,_,h=>by cases h
 | f+1,s,acc,l,v,x,h=>by
  have d:=TN n f;rw[P] at h;cases s <;> dsimp only[iC] at h <;> dsimp only[qQ,qR]
  case or =>
   obtain⟨j,i,b,a⟩:=fF h;have c:=d _ _ _ _ _ b;have e:=d _ _ _ _ _ a;dsimp only[qQ,qR] at c e;omega
  case UJ =>
   split at h
   .rename_i o;have m:=zB o;obtain⟨j,i,b,a⟩:=fF h;have c:=d _ _ _ _ _ b;have e:=d _ _ _ _ _ a;dsimp only[qQ,qR] at c e;rw[kS] at e;omega
   .injection h with b a;have:=Gh 3 acc;rw[<- b,<- a];omega
  case and =>
   obtain⟨j,i,b,a⟩:=fF h;have c:=d _ _ _ _ _ b;have e:=d _ _ _ _ _ a;dsimp only[qQ,qR] at c e;omega
  case AV =>
   split at h
   .rename_i o;have m:=zB o;obtain⟨j,i,b,a⟩:=fF h;have c:=d _ _ _ _ _ b;have e:=d _ _ _ _ _ a;dsimp only[qQ,qR] at c e;rw[kS] at e;omega
   .injection h with b a;have:=Gh 2 acc;rw[<- b,<- a];omega
  case not =>
   split at h
   .rename_i o;have m:=zB o;obtain⟨j,i,b,a⟩:=fF h;have c:=d _ _ _ _ _ b;dsimp only[qQ,qR] at c;injection a with a g;rw[<- a,<- g,dJ,pO];omega
   .obtain⟨j,i,b,a⟩:=fF h;have c:=d _ _ _ _ _ b;dsimp only[qQ,qR] at c;split at a
    .injection a with a g;rw[<- a,<- g];omega
    .rename_i q;have m:=Gi q;obtain⟨B,C,g,p⟩:=fF a;have e:=d _ _ _ _ _ g;dsimp only[qQ,qR] at e;injection p with p k;rw[<- p,<- k,dJ,pO,kS];omega
  case sum =>
   obtain⟨j,i,b,a⟩:=fF h;have c:=d _ _ _ _ _ b;have e:=d _ _ _ _ _ a;dsimp only[qQ,qR] at c e;omega
  case Dp =>
   split at h
   .injection h with b a;rw[<- b,<- a];omega
   .rename_i q;have m:=Gi q;obtain⟨j,i,b,a⟩:=fF h;have c:=d _ _ _ _ _ b;have e:=d _ _ _ _ _ a;dsimp only[qQ,qR] at c e;rw[dJ,pO,kS] at e;omega
  case product =>
   obtain⟨j,i,b,a⟩:=fF h;have c:=d _ _ _ _ _ b;have e:=d _ _ _ _ _ a;dsimp only[qQ,qR] at c e;omega
  case ji =>
   split at h
   .injection h with b a;rw[<- b,<- a];omega
   .rename_i q;have m:=Gi q;obtain⟨j,i,b,a⟩:=fF h;have c:=d _ _ _ _ _ b;have e:=d _ _ _ _ _ a;dsimp only[qQ,qR] at c e;rw[dJ,pO,kS] at e;omega
  case minus =>
   split at h
   .rename_i o;have m:=zB o;split at h
    .split at h
     .split at h
      .injection h with b a;rw[<- b,<- a,dJ,Dc];simp only[b7];omega
      .cases h
     .cases h
    .obtain⟨j,i,b,a⟩:=fF h;have c:=d _ _ _ _ _ b;dsimp only[qQ,qR] at c;injection a with a g;rw[<- a,<- g,dJ,pO];omega
   .have c:=d _ _ _ _ _ h;dsimp only[qQ,qR] at c;omega
  case eY =>
   split at h
   .cases h
   .rename_i t r;rw[b7];split at h
    .cases h
    split at h
    .split at h
     .injection h with b a;rw[<- b,<- a,dJ,Dc];omega
     .cases h
    split at h
    .obtain⟨j,i,b,a⟩:=fF h;have c:=d _ _ _ _ _ b;dsimp only[qQ,qR] at c;obtain⟨m,g⟩:=rO a;injection g with g p;rw[<- g,<- p];omega
    split at h
    .cases h
    split at h
    .injection h with b a;rw[<- b,<- a,dJ,uj,yA];omega
    rename_i y;have A:r.tail.length+1=r.length:=by
     cases r with
     | nil=>exact absurd rfl y
     | cons u r'=>rfl
    split at h
    .split at h
     .cases h
     .obtain⟨m,g⟩:=rO h;obtain⟨j,i,b,a⟩:=fF g;have c:=d _ _ _ _ _ b;dsimp only[qQ,qR] at c;obtain⟨w,k⟩:=rO a;injection k with k h6;rw[<- k,<- h6,dJ,uj];have z:r.tail.tail.length<=r.tail.length:=by rw[cn];omega
      omega
    split at h
    .obtain⟨j,i,b,a⟩:=fF h;have c:=d _ _ _ _ _ b;dsimp only[qQ,qR] at c;obtain⟨w,k⟩:=rO a;injection k with k h6;rw[<- k,<- h6,dJ,pO];omega
    split at h
    .split at h
     .cases h
     .obtain⟨m,g⟩:=rO h;injection g with k h6;rw[<- k,<- h6,dJ,uj,yA];have z:r.tail.tail.length<=r.tail.length:=by rw[cn];omega
      omega
    .injection h with b a;rw[<- b,<- a,dJ,uj,yA];omega
  case args =>
   obtain⟨j,i,b,a⟩:=fF h;have c:=d _ _ _ _ _ b;have e:=d _ _ _ _ _ a;dsimp only[qQ,qR] at c e;omega
  case oW =>
   split at h
   .obtain⟨m,g⟩:=rO h;obtain⟨j,i,b,a⟩:=fF g;have c:=d _ _ _ _ _ b;have e:=d _ _ _ _ _ a;dsimp only[qQ,qR] at c e;rw[kS] at e;omega
   .injection h with b a;rw[<- b,<- a];omega
theorem Rw {s:List UInt8} (d:s.length<=4000) {x:Ex} (h:Pz s.length .or [] (wordsOf s 0) = .ok [x] []):x.parts<=100000:=by
 have a:=TN _ _ _ _ _ _ _ h;have b:=wG s (s.length+1) 0;have c:(toks s (s.length+1) 0).length=(wordsOf s 0).length:=rfl;rw[dJ] at a;dsimp only[qQ,qR] at a;rw[c] at b;simp at a;omega
end
section
open Go.RowKit
attribute [local go_sem ↓] Go.wp_at_zero Go.wp_at_succ ld_item st_item ld_node st_node ld_ans st_ans ld_part st_part ld_rule st_rule ld_form st_form
def af1 (R:Option (List Ex)) (e:Ending) (w':World):Prop:=match R with
 | none=>e = bX (.tuple #[bP none 0 0,bS false])
 | some es=>∃ A P c,e = bX (.tuple #[bP A P.length c,bS true])/\aF Rt 10 w' w'.heap.size A P/\bT P=es/\∀ p∈P,p.2.parts<=300
theorem ZY:(lM.info? 266).map (λ i=>(i.zero,i.size,i.bytes))=some (some (.agg #[.string ⟨#[]⟩,.bool false,.int .i64 0,.int .i64 0,.string ⟨#[]⟩,.int .i64 0,.int .i64 0,.string ⟨#[]⟩,.slice none 0 0,.slice none 0 0]),10,136):=by kernel_rfl
theorem Gj {w:World} {B c:Nat} {A:Option Addr} {acc:List UInt8} (h:w.ownsRow B 5 1 (bP A acc.length c) acc.length (jB acc)):(convert 218 9 (bP A acc.length c)).run lM w = .ok (bO (tb acc)) w:=by
 rcases h.2 with ⟨o,g⟩ | ⟨d,k,i,l,p,q,e3⟩
 .injection o with a hl hc;subst a;have n:acc = []:=cq.1 hl;subst n;exact run_convert_bytes_nil w 218 5 underlying218 underlying5 _ _ _ underlying9
 .injection l with a hl hc;subst a;have g:=run_convert_bytes_arg (P:=lM) w 218 5 underlying218 underlying5 d 0 acc.length c (acc.map (λ x=>(x.toNat:Int))) (by simp) (λ j m=>by
   obtain⟨ad,a,-,b⟩:=(Reads.fB h).2 (by omega);injection a with a;subst a;have f:=b j (.int .u8 ((acc.map (λ x=>(x.toNat:Int))).getD j 0)) (by unfold jB;simp[List.getD,m]);have e:(⟨d,0,none⟩:Addr).add j=⟨d,0+j,none⟩:=by unfold Addr.add;split <;> simp_all
   rw[e] at f;exact f) _ underlying9
  rw[g];congr 2;unfold tb;refine ByteArray.ext (Array.toList_inj.1 ?_);rw[strOfNums_data,List.map_map]
  conv=>rhs;rw[<- List.map_id acc]
  refine List.map_congr_left (λ x _=>?_);simp
theorem OW {l:List UInt8} (c:l.length<=4000) {X:Ex} {a:Nat} (h:kM l=(X,a,0)):X.parts<=300:=by
 rw[Jb l c] at h;split at h
 .cases h
 .cases h
 .split at h
  .rename_i b;injection h with h2 h3;injection h3 with h4 h5;exact absurd h5 b
  .rename_i b;injection h with h2 h3;subst h2;exact (N9 (Decidable.not_not.1 b)).2
def ajF (i:Nat):Option Nat->Int
 | some k=>(i+k:Nat)
 | none=>-1
theorem ade {s:ByteArray} {j:Nat} (h:j+1<s.size):(s.data.toList.drop (j+1)).head?=some s[j+1]:=by
 have a:j+1<s.data.toList.length:=by simpa using h
 rw[cb a];rfl
theorem adf {s:ByteArray} {j:Nat} (h:¬ j+1<s.size):(s.data.toList.drop (j+1)).head?=none:=by
 rw[cc (by simp;omega)];rfl
theorem Wh (s:ByteArray) (w:World) (hs:s.size<=4000) (K:Tab w) (ay:Mx w) :
  Calls lM 168 #[bO s] w λ e w'=>af1 (uV s) e w'/\DD w w':=by
 obtain⟨i0,ar,aD,am,ac⟩:=info_parts ZK;obtain⟨j0,aw,ak,ao,ae⟩:=info_parts ZY;have jU:=qh (λ w' (l:DD w w')=>b1 (aB K l) (ay.below l));obtain⟨R,hR⟩:=af (uV s);have HR:=qh (hR.symm.trans (V9 s));rw[hR];clear hR K ay;go_enter func168,ntmps168;go_wp2;go_loopw [6,4,5] (λ i v vp wr=>∃ (j:Nat) (P:List (Bool × Ex)) (acc:List UInt8),i = bL bN j/\j<=s.size/\Hid (G9 w.heap.size wr v P vp acc)/\Hid (R=(jM (s.data.toList.drop j)).map (bT P ++ ·))/\DD w wr/\acc.length<=j/\P.length<=2*j/\Hid (∀ p∈P,p.2.parts<=300)) (λ i _ _ _=>s.size+1 - (intOf i).toNat)
 case atStart=>exact⟨0,[],[],rfl,b3 _,qh G9.nil,qh (by rw[List.drop_zero,HR.o];cases jM s.data.toList <;> rfl),Below.refl _ _,b0 _,b0 _,qh (λ p hp=>by cases hp)⟩
 case round =>
  obtain⟨j,P,acc,rfl,hj,C,M,l,a3,hP,Hq⟩:=hrel;have m:=l.size;obtain⟨Ap,cp,rfl⟩:=dX C.o.pl;obtain⟨av,T,an⟩:=C.o.row;obtain⟨Ao,co,rfl⟩:=dX T;have A:=qh (b1 T an);clear T an;by_cases hlt:j<s.size
  .have M:=qh (M.o.trans (congrArg (b5 (bT P ++ ·)) (Ru hlt)));obtain⟨c,hc⟩:=af (s[j]);rw[hc] at M;have aV:=qh hlt;have G:=qh (b1 (@ade s j) (@adf s j));have i1:IntKind.i64.wrap ((j:Int)+1)=((j+1:Nat):Int):=IntWalk.i64_in _ (by omega);by_cases hA:c≠123/\c≠125
   .have M:=qh (M.o.trans (congrArg (b5 (bT P ++ ·)) (if_pos hA)));obtain⟨g1,H⟩:=fH (byF (n:=123) rfl hA.1);obtain⟨g2,S⟩:=fH (byF (n:=125) rfl hA.2);clear hA;have r:=qh M.o;have y:=C.o.pl.alloc (.cells #[.int .u8 (c.toNat:Nat)] 5 (0,0));by_cases h1:j+1<s.size
    case' neg =>
     have t:¬ (j:Int)+1<(s.size:Nat):=by omega
    case' pos =>
     have t:(j:Int)+1<(s.size:Nat):=by omega
     obtain⟨c1,B⟩:=af (s[j+1]);obtain⟨b9,gK⟩:=af (((c1.toNat:Int) == (c.toNat:Int)))
    all_goals
     go_wp2_with (at_builtin;refine wpList_append_own_at _ rfl _ _ 218 rfl w.heap.size 5 i0 (.int .u8 0) 1 1 underlying218 ar aD am ac rfl (by decide) _ acc.length (jB acc) rfl y ⟨wr.heap.size,0,none⟩ 1 1 [.int .u8 (c.toNat:Nat)] rfl rfl (cell_one_new _ _ _) (by simp[ca]) (by unfold maxLen;omega) (by omega) (by have:=l.size;simp;omega) ?_;intro v4 w4 a f _ N);have o:=az wr (.cells #[.int .u8 (c.toNat:Nat)] 5 (0,0));have q:DD w w4:=(l.trans (o.mono m)).grown f (by simp;omega) (λ g Z=>(y.lt g Z).1);have sF:=qh (show G9 w.heap.size w4 (.slice Ao P.length co) P v4 (acc ++ [c]) from (C.o.later o).plain f (by rw[b2];simpa [jB] using a) N);go_roundw
     case rel=>exact⟨j+1,P,acc ++ [c],by go_num,by omega,sF,r,q,by rw[b2];simp;omega,by omega,Hq⟩
     case measure =>
      have:=aV.o
      first | (simp[intOf];done) | (simp[intOf];omega)
   have ad:=qh (M.o.trans (congrArg (b5 (bT P ++ ·)) (if_neg hA)));by_cases hd:(s.data.toList.drop (j+1)).head?=some c
   .have r:=qh (ad.o.trans (congrArg (b5 (bT P ++ ·)) (if_pos hd)));have h1:j+1<s.size:=ce λ h=>by rw[G.o.2 h] at hd;cases hd
    have B:s[j+1]=c:=Option.some.inj ((G.o.1 h1).symm.trans hd);have t:(j:Int)+1<(s.size:Nat):=by omega
    have y:=C.o.pl.alloc (.cells #[.int .u8 (c.toNat:Nat)] 5 (0,0));have ap:((c.toNat:Int) == (c.toNat:Int))=true:=by simp
    clear hd;by_cases L:c=123
    case' pos =>
     obtain⟨g1,H⟩:=iP (byT (n:=123) rfl L)
    case' neg =>
     obtain⟨g1,H⟩:=fH (byF (n:=123) rfl L);obtain⟨g2,S⟩:=iP (byT (n:=125) (c:=c) (d:=125) rfl (ce λ h=>hA ⟨L,h⟩))
    all_goals clear L hA
    all_goals
     go_wp2_with (at_builtin;refine wpList_append_own_at _ rfl _ _ 218 rfl w.heap.size 5 i0 (.int .u8 0) 1 1 underlying218 ar aD am ac rfl (by decide) _ acc.length (jB acc) rfl y ⟨wr.heap.size,0,none⟩ 1 1 [.int .u8 (c.toNat:Nat)] rfl rfl (cell_one_new _ _ _) (by simp[ca]) (by unfold maxLen;omega) (by omega) (by have:=l.size;simp;omega) ?_;intro v4 w4 a f _ N);have o:=az wr (.cells #[.int .u8 (c.toNat:Nat)] 5 (0,0));have q:DD w w4:=(l.trans (o.mono m)).grown f (by simp;omega) (λ g Z=>(y.lt g Z).1);have sF:=qh (show G9 w.heap.size w4 (.slice Ao P.length co) P v4 (acc ++ [c]) from (C.o.later o).plain f (by rw[b2];simpa [jB] using a) N);go_roundw
     case rel=>exact⟨j+2,P,acc ++ [c],by go_num,by omega,sF,r,q,by rw[b2];simp;omega,by omega,Hq⟩
     case measure =>
      have:=aV.o
      first | (simp[intOf];done) | (simp[intOf];omega)
   have al:=qh (ad.o.trans (congrArg (b5 (bT P ++ ·)) (if_neg hd)));by_cases zl:c=125
   .have r:=qh (show R=none from al.o.trans (by rw[if_pos zl];rfl));obtain⟨g1,H⟩:=fH (show ¬ (c.toNat:Int)=123 by rw[zl];decide);obtain⟨g2,S⟩:=iP (byT (n:=125) rfl zl);by_cases h1:j+1<s.size
    case' neg =>
     have t:¬ (j:Int)+1<(s.size:Nat):=by omega
    case' pos =>
     have t:(j:Int)+1<(s.size:Nat):=by omega
     obtain⟨c1,B⟩:=af (s[j+1]);have ap:((c1.toNat:Int) == (c.toNat:Int))=false:=beq_eq_false_iff_ne.2 (λ e=>hd ((G.o.1 h1).trans (by rw[B];exact congrArg some (UInt8.toNat_inj.1 (by omega)))))
    all_goals
     clear zl hA hd;go_wp2;go_ret2;exact⟨by rw[r.o];rfl,l⟩
   have I:=qh (show R=_ from al.o.trans (congrArg (b5 (bT P ++ ·)) (if_neg zl)));have L:c=123:=ce λ h=>hA ⟨h,zl⟩;obtain⟨g1,H⟩:=iP (byT (n:=123) rfl L);obtain⟨g2,S⟩:=fH (show ¬ (c.toNat:Int)=125 by rw[L];decide);obtain⟨E,hE⟩:=af (o9 (s.data.toList.drop (j+1)) false 0);have V:=qh (show Vs s (j+1)=ajF (j+1) E by rw[<- hE];unfold Vs ajF;cases o9 (s.data.toList.drop (j+1)) false 0 <;> rfl);rw[hE] at I;have aq:=qh hE;obtain⟨p9,ZZ⟩:=af (Vs s (j+1));have KE:=qh (show ∀ w',Calls lM 208 #[bO s,bL bN ((j:Int)+1)] w' λ e a1=>e = bX (bL bN p9)/\w'=a1 from λ w'=>ZZ▸Oa s (j+1) w' (by unfold maxLen;omega) (by omega));rw[ZZ] at V;by_cases h1:j+1<s.size
   case' neg =>
    have t:¬ (j:Int)+1<(s.size:Nat):=by omega
   case' pos =>
    have t:(j:Int)+1<(s.size:Nat):=by omega
    obtain⟨c1,B⟩:=af (s[j+1]);have ap:((c1.toNat:Int) == (c.toNat:Int))=false:=beq_eq_false_iff_ne.2 (λ e=>hd ((G.o.1 h1).trans (by rw[B];exact congrArg some (UInt8.toNat_inj.1 (by omega)))))
   all_goals
    clear zl hA hd L hE ZZ;cases E with
    | none =>
     obtain rfl:p9 = -1:=V.o;have r:=qh (show R=none from I.o);go_wp2_with (go_at_call 208;(with_reducible refine (KE.o _).mono ?_);rintro e1 w1 ⟨rfl,rfl⟩);go_ret2;exact⟨by rw[r.o];rfl,l⟩
    | some k =>
     obtain rfl:p9=((j+1+k:Nat):Int):=V.o;have a0:=D5 _ _ _ _ aq.o;rw[b4] at a0;have a4:s.data.toList.length=s.size:=by simp
     go_upto_region 11 with (go_at_call 208;(with_reducible refine (KE.o _).mono ?_);rintro e1 w1 ⟨rfl,rfl⟩)
     all_goals
      have Y:s.extract (j+1) (j+1+k)=tb ((s.data.toList.drop (j+1)).take k):=QR s (j+1) k;have F:((s.data.toList.drop (j+1)).take k).length<=4000:=by rw[List.length_take,b4];omega
      obtain⟨l2,W⟩:=af ((s.data.toList.drop (j+1)).take k);obtain⟨⟨X,aZ,f9⟩,J⟩:∃ z,kM l2=z:=⟨_,rfl⟩;rw[W] at F Y;have ag:=qh (show R=((if f9≠0 then none else (jM (s.data.toList.drop (j+1+k+1))).map (X :: ·)).map (bT P ++ ·)) from I.o.trans (by simp only[W,J]));have KP:=qh (show Calls lM 209 #[bO (tb l2)] wr λ e w'=>∃ A1 c1 A2 c2,e = bX (.tuple #[.agg (Ag X A1 c1 A2 X.ar.length c2),bL bN (aZ:Nat),bL bN f9])/\bY w' (λ b=>wr.heap.size<=b) w'.heap.size X (aA X A1 c1 A2 c2)/\DD wr w' from by
       have h:=V8 (tb l2) wr (show l2.length<=maxLen by unfold maxLen;omega) (jU.o wr l).1 (jU.o wr l).2 (λ _ x h=>b6 (Rw (s:=l2) F h) (by decide));rw[show (tb l2).data.toList=l2 from rfl,J] at h;exact h)
      have aa:=qh (λ h:f9=0=>OW F (by rw[J,h]));clear W J I aq F;by_cases hf:f9=0
      .have aa:=qh (aa.o hf);obtain⟨g5,Xg⟩:=iP hf;have r:=qh (show R=_ from ag.o.trans (by rw[if_neg (λ h=>h hf)]));clear hf;go_upto_region 14 with (go_at_call 209;rw[Y];(with_reducible refine KP.o.mono ?_);rintro e5 U ⟨A1,c1,A2,c2,rfl,ab,u⟩);obtain⟨W6,uN⟩:=aG (U.alloc (.cells (Ag X A1 c1 A2 X.ar.length c2) 67 (0,0)));have h6:DD U W6:=uN▸az U _;have BX:ah W6 U.heap.size 67 (Ag X A1 c1 A2 X.ar.length c2):=uN▸ah.new U _ _;rw[<- uN];clear uN;obtain⟨iE,iF,iG,iH,iI,iJ,iK,gX⟩:=ah.c8 BX;have D:DD wr W6:=u.trans (h6.mono u.size);have aE:=qh (C.o.later D);have aM:=aQ A.o.1 D;have kc:=Gj aE.o.pl;have y:=aM.alloc (.cells #[.string (tb acc),.bool false,.int .i64 0,.int .i64 0,.string ⟨#[]⟩,.int .i64 0,.int .i64 0,.string ⟨#[]⟩,.slice none 0 0,.slice none 0 0,.string ⟨#[]⟩,.bool true,.int .i64 X.k,.int .i64 X.op,.string X.nm,.int .i64 X.v.k,.int .i64 X.v.n,.string X.v.s,.slice A1 X.v.l.length c1,.slice A2 X.ar.length c2] 266 (0,0));have aR:=D.size;have aL:=qh ab;have ax:=qh D;have H6:=qh h6;clear ab BX;go_wp2_with (at_builtin;refine wpList_append_own_at _ rfl _ _ 262 rfl w.heap.size 266 j0 (.agg #[.string ⟨#[]⟩,.bool false,.int .i64 0,.int .i64 0,.string ⟨#[]⟩,.int .i64 0,.int .i64 0,.string ⟨#[]⟩,.slice none 0 0,.slice none 0 0]) 10 136 underlying262 aw ak ao ae rfl (by decide) _ P.length av rfl y ⟨W6.heap.size,0,none⟩ 2 2 [.string (tb acc),.bool false,.int .i64 0,.int .i64 0,.string ⟨#[]⟩,.int .i64 0,.int .i64 0,.string ⟨#[]⟩,.slice none 0 0,.slice none 0 0,.string ⟨#[]⟩,.bool true,.int .i64 X.k,.int .i64 X.op,.string X.nm,.int .i64 X.v.k,.int .i64 X.v.n,.string X.v.s,.slice A1 X.v.l.length c1,.slice A2 X.ar.length c2] rfl rfl (gZ (ah.new W6 _ _)) (by simp[ca]) (by unfold maxLen;omega) (by omega) (by have:=l.size;simp;omega) ?_;intro v4 w4 a f _ N);have o:=az W6 (.cells #[.string (tb acc),.bool false,.int .i64 0,.int .i64 0,.string ⟨#[]⟩,.int .i64 0,.int .i64 0,.string ⟨#[]⟩,.slice none 0 0,.slice none 0 0,.string ⟨#[]⟩,.bool true,.int .i64 X.k,.int .i64 X.op,.string X.nm,.int .i64 X.v.k,.int .i64 X.v.n,.string X.v.s,.slice A1 X.v.l.length c1,.slice A2 X.ar.length c2] 266 (0,0));have q:DD w w4:=((l.trans (ax.o.mono m)).trans (o.mono (b6 m aR))).grown f (by simp;omega) (λ g Z=>(y.lt g Z).1);have Dw:=G9.push (Q:=[(false,zeroE),(true,X)]) (aE.o.later o) y (λ i O=>((A.o.2 i O).keep (aK.of ax.o) (λ _ h _=>h)).keep (aK.of o) (λ _ h _=>h)) rfl (λ i O=>by
        rcases i with _ | _ | i
        .exact⟨tb acc,_,rfl,Kr _ _⟩
        .refine⟨⟨#[]⟩,_,rfl,((aL.o.keep (aK.of (H6.o.trans (o.mono H6.o.size)))).imp (λ k hk _=>⟨b6 m hk,λ e=>?_,λ e=>?_⟩)).up (b6 H6.o.size o.size)⟩
         .have:=(A.o.1.lt k e).2;omega
         .have:=(C.o.pl.lt k e).2;omega
        .simp at O;omega) f a N
       have sF:=qh Dw.empty;have a2:=qh (show R=(jM (s.data.toList.drop (j+1+k+1))).map (bT (P ++ [(false,zeroE),(true,X)]) ++ ·) from r.o.trans (by rw[vV];cases jM (s.data.toList.drop (j+1+k+1)) <;> simp[bT]));go_roundw
       case rel=>exact⟨j+1+k+1,P ++ [(false,zeroE),(true,X)],[],by go_num,by omega,sF,a2,q,b3 _,by rw[b2];simp;omega,qh (λ p hp=>(cr.1 hp).elim (Hq.o p) (λ h=>by rcases cf.1 h with rfl | h;exact (by decide);rcases cf.1 h with rfl | h;exact aa.o;cases h))⟩
       case measure =>
        have:=aV.o
        first | (simp[intOf];done) | (simp[intOf];omega)
      .obtain⟨g5,Xg⟩:=fH hf;have r:=qh (show R=none from ag.o.trans (by rw[if_pos hf];rfl));clear hf;go_wp2_with (go_at_call 209;rw[Y];(with_reducible refine KP.o.mono ?_);rintro e5 U ⟨A1,c1,A2,c2,rfl,ab,u⟩);go_ret2;exact⟨by rw[r.o];rfl,by first | exact l.trans (u.mono m) | exact (l.trans (u.mono m)).alloc (by have:=u.size;omega) _⟩
  .have e:j=s.size:=by omega
   subst e;have r:=qh (show R=some (bT P) from M.o.trans (by rw[We];simp));have kc:=Gj C.o.pl;have y:=A.o.1.alloc (.cells #[bO (tb acc),bS false,bL bN 0,bL bN 0,bO ⟨#[]⟩,bL bN 0,bL bN 0,bO ⟨#[]⟩,bP none 0 0,bP none 0 0] 266 (0,0));have VJ:¬ ((s.size:Nat):Int)<((s.size:Nat):Int):=by omega
   go_wp2_with (at_builtin;refine wpList_append_own_at _ rfl _ _ 262 rfl w.heap.size 266 j0 (.agg #[.string ⟨#[]⟩,.bool false,.int .i64 0,.int .i64 0,.string ⟨#[]⟩,.int .i64 0,.int .i64 0,.string ⟨#[]⟩,.slice none 0 0,.slice none 0 0]) 10 136 underlying262 aw ak ao ae rfl (by decide) _ P.length av rfl y ⟨wr.heap.size,0,none⟩ 1 1 [.string (tb acc),.bool false,.int .i64 0,.int .i64 0,.string ⟨#[]⟩,.int .i64 0,.int .i64 0,.string ⟨#[]⟩,.slice none 0 0,.slice none 0 0] rfl rfl (gZ (ah.new wr _ _)) (by simp[ca]) (by unfold maxLen;omega) (by omega) (by have:=l.size;simp;omega) ?_;intro v4 w4 a f _ N);have o:=az wr (.cells #[.string (tb acc),.bool false,.int .i64 0,.int .i64 0,.string ⟨#[]⟩,.int .i64 0,.int .i64 0,.string ⟨#[]⟩,.slice none 0 0,.slice none 0 0] 266 (0,0));have q:DD w w4:=(l.trans (o.mono m)).grown f (by simp;omega) (λ g Z=>(y.lt g Z).1);have Dw:=G9.push (Q:=[(false,zeroE)]) (C.o.later o) y (λ i O=>(A.o.2 i O).keep (aK.of o) (λ _ h _=>h)) rfl (λ i O=>by
    obtain rfl:i=0:=by simpa using O
    exact⟨tb acc,_,rfl,Kr _ _⟩) f a N
   obtain⟨A4,c4,rfl⟩:=dX a;go_ret2;refine⟨?_,q⟩;rw[r.o];exact⟨A4,P ++ [(false,zeroE)],c4,by rw[b2];rfl,Dw.at_ (by rw[b2];unfold maxLen;simp;omega),by rw[vV];exact List.append_nil _,λ p hp=>(cr.1 hp).elim (Hq.o p) (λ h=>by rcases cf.1 h with rfl | h;exact (by decide);cases h)⟩
def Kt (c:UInt8):Bool:=aW c.toNat 32 126
theorem Wi {s:ByteArray} {k:Nat} (h:k<s.size) (a:(s.data.toList.take k).any Kt=false):(s.data.toList.take (k+1)).any Kt=Kt s[k]:=by
 have b:k<s.data.toList.length:=h;rw[List.take_succ_eq_append_getElem b,List.any_append,a];simp;rfl
theorem Z4 {s:ByteArray} {k:Nat} (h:k<s.size) (a:Kt s[k]=true):s.data.toList.any Kt=true:=by
 have b:k<s.data.toList.length:=h;exact List.any_eq_true.2 ⟨s.data.toList[k],cg b,a⟩
noncomputable def adg (F:Ex->Int × Int) (pipes:Bool) (s:ByteArray) (rest:Int):Int:=if 300<s.size then 2 else if s.data.toList.any Kt=true then 1 else
  match uV s with
  | none=>10
  | some es=>if qK F pipes es≠0 then qK F pipes es else rest
theorem Z5 {F:Ex->Int × Int} {a:Bool} {l:List ByteArray} {k:Nat} (h:k<l.length):Np F a (l.drop k)=adg F a l[k] (Np F a (l.drop (k+1))):=by
 rw[cb h,Np];unfold adg;cases uV l[k] <;> rfl
theorem Z7 {w:World} {ad:Addr} {cs:List Value} (b:cs.length=10) (a:∀ j u,cs[j]?=some u->w.cell? (ad.add j)=some u):(wL 266 (bR (some ad))).run lM w = .ok (.agg cs.toArray) w:=
 wO underlying266 rfl (by rw[b];kernel_rfl) a
theorem Z9 {w:World} {cs:List Value} (a:cs.length=10) (b:∀ v∈cs,v.oneCell'=true):(Hr 266 (bR (some ⟨w.heap.size,0,none⟩)) (.agg cs.toArray)).run lM (w.alloc (.cells #[bO ⟨#[]⟩,bS false,bL bN 0,bL bN 0,bO ⟨#[]⟩,bL bN 0,bL bN 0,bO ⟨#[]⟩,bP none 0 0,bP none 0 0] 266 (0,0))) = .ok () (w.alloc (.cells cs.toArray 266 (0,0))):=
 wP (by rw[show cs.toArray.size=10 from a];kernel_rfl) (show 10=cs.toArray.size from a.symm) (by rw[<- Array.all_toList];exact List.all_eq_true.2 b)
theorem yB {w:World} {B0 T m1 m2 m3:Nat} {x:jS} {f:aI} {N:List au} {K:aY} (h:aT w B0 T m1 m2 m3 x f N K) {S:Nat} (O:w.cell? ⟨S,0,none⟩=some (bR (some ⟨T,0,none⟩))) (a3:S<w.heap.size) (hN:gW N) {p:List ByteArray} {A:Option Addr} {c B:Nat} {n:Int} {a:Bool} {F:Ex->Int × Int} (hp:kz w B A c p) (hB:B<=w.heap.size) (hF:a=true->∃ m:Nat,n=m/\m<N.length/\F=bV N K m (cZ N K m)) (Q:Tab w) (a2:Mx w) :
  CS 112 #[bR (some ⟨S,0,none⟩),bP A p.length c,bL bN n,bS a] w (bL bN (pq F f.ag.length a p)):=by
 have be:=hp.2.2.1;have bl:=h.form.la.2.2.1;unfold maxLen at be bl;have g2:w.cell? ⟨T,2,none⟩=some (bP x.AL f.ag.length x.cl):=h.blk.cell 2;have kF:=qh (b1 h (b1 O (b1 a3 hN)));have Jc:=qh hp;have bb:=qh hF;have jU:=qh (λ w' (C:DD w w')=>b1 (aB Q C) (a2.below C));obtain⟨R,hR⟩:=af (pq F f.ag.length a p);have HR:=qh (hR.symm.trans (pq.eq_def F f.ag.length a p));rw[hR];clear h hp hF Q a2 hR;by_cases h0:p.length=0
 .obtain rfl:p = []:=cq.1 h0;have o:=qh (show R=0 from HR.o.trans (if_neg (λ h=>absurd h.1 (by decide))));clear h0;go_enter func112,ntmps112;go_wp2;go_loopw [37] (λ i wr=>i = bL bN 0/\wr=w) (λ _ _=>1)
  case atStart=>exact⟨rfl,rfl⟩
  case round =>
   obtain⟨rfl,rfl⟩:=hrel;go_wp2;go_ret;exact⟨aj o.o.symm,Below.refl _ _⟩
 have bx:0<(p.length:Int):=by omega
 by_cases hne:p.length≠f.ag.length
 .have o:=qh (HR.o.trans (if_pos ⟨by omega,hne⟩));have a6:((p.length:Int) != (f.ag.length:Int))=true:=bne_iff_ne.2 (by omega);clear hne h0;go_enter func112,ntmps112;go_wp2;go_ret;exact⟨aj o.o.symm,Below.refl _ _⟩
 have bw:=qh (HR.o.trans (if_neg (λ h=>hne h.2)));have a6:((p.length:Int) != (f.ag.length:Int))=false:=bne_eq_false_iff_eq.2 (by omega);clear hne h0;go_enter func112,ntmps112;go_upto_region 3 with (fail)
 all_goals
  clear HR bx g2 O;go_wp2;go_loopw [37] (λ i wr=>∃ k:Nat,i = bL bN k/\k<=p.length/\Hid (R=Np F a (p.drop k))/\DD w wr) (λ i _=>p.length+1 - (intOf i).toNat)
  case atStart=>exact⟨0,rfl,b3 _,bw,Below.refl _ _⟩
  case round =>
   obtain⟨k,rfl,hk,HD,C⟩:=hrel;have hs:=C.size;by_cases hlt:k<p.length
   .obtain⟨ab,ao,rfl,bi,a1⟩:=Reads.plain (Jc.o.1.below (C.mono hB)) (by omega);have qx:wr.cell? ⟨ab,ao+k,none⟩=some (bO p[k]):=a1 k _ (by simp[dP,hlt]);have bt:=Jc.o.2.2.2 p[k] (cg hlt);have HD:=qh (HD.o.trans (Z5 hlt));obtain⟨s,ak⟩:=af (p[k]);obtain⟨rr,ap⟩:=af (Np F a (p.drop (k+1)));have bo:=qh ap;rw[ak,ap] at HD;rw[ak] at qx bt;have aV:=qh hlt;have bB:ab<wr.heap.size:=ct bi (b6 hB hs);clear ak ap a1;by_cases h3:300<s.size
    .have o:=qh (show R=2 from HD.o.trans (by unfold adg;rw[if_pos h3]));have ba:(300:Int)<(s.size:Nat):=by omega
     go_wp2;go_ret;exact⟨aj o.o.symm,C⟩
    have Z:=qh (show R=_ from HD.o.trans (by unfold adg;rw[if_neg h3]));have ba:¬ (300:Int)<(s.size:Nat):=by omega
    clear HD;go_wp2;go_loopw [11] (λ i w2=>∃ m:Nat,i = bL bN m/\m<=s.size/\w2=wr/\Hid ((s.data.toList.take m).any Kt=false)) (λ i _=>s.size+1 - (intOf i).toNat)
    case atStart=>exact⟨0,rfl,b3 _,rfl,qh rfl⟩
    case round =>
     obtain⟨m,rfl,hm,rfl,HC⟩:=hrel;by_cases hml:m<s.size
     .obtain⟨ch,bk⟩:=af (s[m]);have an:=qh (Wi hml HC.o);have V:=qh (Z4 hml);rw[bk] at an V;have ay:=qh hml;obtain⟨x1,am⟩:=af (Kt ch);have K1:=qh (show ∀ w,Calls lM 30 #[bL bN (ch.toNat:Nat),bL bN 32,bL bN 126] w λ e w'=>e = bX (bS x1)/\w=w' from λ w=>am▸jk (ch.toNat:Nat) 32 126 w);rw[am] at an V;clear am;have bz:wrap64 ((ch.toNat:Nat):Int)=((ch.toNat:Nat):Int):=IntWalk.wrap64_in _ (by have:=ch.toNat_lt;omega);cases x1
      .go_wp2_with (go_at_call 30;(with_reducible refine (K1.o _).mono ?_);rintro e1 w1 ⟨rfl,rfl⟩);go_roundw
       case rel=>exact⟨m+1,by go_num,ay.o,by first | rfl | trivial,an⟩
       case measure =>
        have:=ay.o
        first | (simp[intOf];done) | (simp[intOf];omega)
      .have o:=qh (show R=1 from Z.o.trans (if_pos (V.o rfl)));go_wp2_with (go_at_call 30;(with_reducible refine (K1.o _).mono ?_);rintro e1 w1 ⟨rfl,rfl⟩);go_ret;exact⟨aj o.o.symm,C⟩
     .have e:m=s.size:=by omega
      subst e;have HA:=qh (show s.data.toList.any Kt=false by have h:=HC.o;rwa [List.take_of_length_le (by simp)] at h);have J:=qh (show R=_ from Z.o.trans (if_neg (by rw[HA.o];decide)));clear Z;obtain⟨PF,Y⟩:=af (uV s);have KP:=qh (Y▸Wh s _ (by omega) (jU.o _ C).1 (jU.o _ C).2);rw[Y] at J;clear Y;have aq:=C.size;cases PF with
      | none =>
       have o:=qh (show R=10 from J.o);go_wp2_with (go_at_call 168;(with_reducible refine KP.o.mono ?_);rintro e5 w5 ⟨rfl,d⟩);go_ret;exact⟨aj o.o.symm,C.trans (d.mono aq)⟩
      | some es =>
       have aL:=qh (show R=if qK F a es≠0 then qK F a es else rr from J.o);go_wp2_with (go_at_call 168;(with_reducible refine KP.o.mono ?_);rintro e5 w5 ⟨⟨A9,l,c9,rfl,aa,aD,a0⟩,d⟩);have d:=C.trans (d.mono aq);have bp:=aa.1;unfold maxLen at bp;have aR:=qh (b1 aa a0);have bf:=qh (show R=if qK F a (bT l)≠0 then qK F a (bT l) else rr from aD.symm▸aL.o);clear aa aD a0 aL J KP;go_loopw [64] (λ i w3=>∃ q:Nat,i = bL bN q/\q<=l.length/\Hid (R=if qK F a (bT (l.drop q))≠0 then qK F a (bT (l.drop q)) else rr)/\DD w5 w3) (λ i _=>l.length+1 - (intOf i).toNat)
       case atStart=>exact⟨0,rfl,b3 _,bf,Below.refl _ _⟩
       case round =>
        obtain⟨q,rfl,g,HQ,gK⟩:=hrel;by_cases hql:q<l.length
        .obtain⟨ad,ci,rfl,bj,a4,E⟩:=aF.at_ (aF.keep (P:=Rt) (λ _ _ ⟨t,es,e,h⟩=>⟨t,es,e,h.keep gK⟩) aR.o.1 gK) hql;obtain⟨⟨pi,X⟩,L⟩:∃ z,l[q]=z:=⟨_,rfl⟩;have a7:=qh (show X.parts<=300 by have:=aR.o.2 l[q] (cg hql);rw[L] at this;exact this);have aM:=qh (show (pi=false->bT (l.drop q)=bT (l.drop (q+1)))/\(pi=true->bT (l.drop q)=X :: bT (l.drop (q+1))) by
          rw[cb hql,L];exact⟨λ h=>by subst h;rfl,λ h=>by subst h;rfl⟩)
         rw[L] at a4;obtain⟨t,bA,rfl,hE⟩:=a4;have bd:=qh hE;obtain⟨-,-,-,-,-,-,-⟩:=hE;rename_i A3 c3 A4 c4 bE;obtain⟨cs,b⟩:∃ cs:List Value,[bO t,bS pi,bL bN X.k,bL bN X.op,bO X.nm,bL bN X.v.k,bL bN X.v.n,bO X.v.s,bP A3 X.v.l.length c3,bP A4 X.ar.length c4]=cs:=⟨_,rfl⟩;have U:cs.length=10:=by subst b;rfl
         have EZ:=Z7 (w:=wr) U (ad:=ad.add (q*10)) (λ j u hu=>E j u (by subst b;exact hu));have aw:=Z9 (w:=wr) U (by subst b;simp[ca]);obtain⟨W,hW⟩:=aG (wr.alloc (.cells cs.toArray 266 (0,0)));have oM:DD wr W:=hW▸az wr _;have H:ah W wr.heap.size 266 cs.toArray:=hW▸ah.new wr _ _;have q0:W.cell? ⟨wr.heap.size,0,none⟩=some (bO t):=by rw[H.cell 0];subst b;rfl
         have q1:W.cell? ⟨wr.heap.size,1,none⟩=some (bS pi):=by rw[H.cell 1];subst b;rfl
         have y:DD w5 W:=gK.trans (oM.mono gK.size);have M:=qh hql;clear E bj L;go_upto_region 19 with (fail);rw[<- hW];clear EZ aw hW;cases pi
         .have o:=qh (show R=if qK F a (bT (l.drop (q+1)))≠0 then qK F a (bT (l.drop (q+1))) else rr from (aM.o.1 rfl)▸HQ.o);go_wp2;go_roundw
          case rel=>exact⟨q+1,by go_num,M.o,o,y⟩
          case measure =>
           have:=M.o
           first | (simp[intOf];done) | (simp[intOf];omega)
         have ae:=qh (show R=if qK F a (X :: bT (l.drop (q+1)))≠0 then qK F a (X :: bT (l.drop (q+1))) else rr from (aM.o.2 rfl)▸HQ.o);cases a
         .have o:=qh (show R=10 from ae.o.trans (by simp[qK]));go_wp2;go_ret;exact⟨aj o.o.symm,d.trans (y.mono d.size)⟩
         obtain⟨m,rfl,hm,aZ⟩:=bb.o rfl;have aE:=d.trans (y.mono d.size);have av:=bd.o;have Vp:=qh (show ∀ w',DD W w'->aT w' B0 T m1 m2 m3 x f N K/\w'.cell? ⟨S,0,none⟩=some (bR (some ⟨T,0,none⟩))/\S<w'.heap.size/\Tab w'/\Mx w'/\bC w' w5.heap.size X (aA X A3 c3 A4 c4) from λ w' g=>by
          have D:=aE.trans (g.mono aE.size);exact⟨kF.o.1.keep D,Below.cell_of D kF.o.2.1,ct a3 D.size,(jU.o _ D).1,(jU.o _ D).2,av.keep (oM.mono gK.size |>.trans (g.mono y.size))⟩)
         obtain⟨I,hI⟩:=af (cZ N K m);have KI:=qh (show ∀ w',DD W w'->Calls lM 169 #[bR (some ⟨T,0,none⟩),bL bN m] w' λ e G=>(∃ v,e = bX v/\(∃ A c,v = bP A (I).length c/\eX G G.heap.size A (I)/\((A=none/\c=0/\I = [])\/(∃ m,I = [m]))))/\DD W G from λ w' g=>hI▸(Fq (Vp.o w' g).1 m hm).mono λ _ _ ⟨h1,h2⟩=>⟨h1,g.trans (h2.mono g.size)⟩);obtain⟨r,hr⟩:=af (F X);have KT:=qh (show ∀ w' A6 c6,DD W w'->eX w' w'.heap.size A6 I->((A6=none/\c6=0/\I = [])\/(∃ m,I = [m]))->Calls lM 120 #[bR (some ⟨S,0,none⟩),.agg (Ag X A3 c3 A4 X.ar.length c4),bL bN m,bP A6 I.length c6] w' λ en G=>en = bX (.tuple #[bL bN r.1,bL bN r.2])/\DD W G from λ w' A6 c6 g h1 h2=>by
          have h:=Vp.o w' g;rw[<- hr,aZ,hI];exact (wU h.1 h.2.1 h.2.2.1 kF.o.2.2.2 h1 h2 h.2.2.2.2.2 (b6 y.size g.size) hm (by have:=a7.o;omega) h.2.2.2.1 h.2.2.2.2.1).mono λ _ _ ⟨h3,h4⟩=>⟨h3,g.trans (h4.mono g.size)⟩)
         have uM:=qh (show qK F true (X :: bT (l.drop (q+1)))=if r.2≠0 then r.2 else qK F true (bT (l.drop (q+1))) by rw[qK,if_neg (by decide),hr]);have O:=(Vp.o W (Below.refl _ _)).2.1;have bs:W.cell? ⟨wr.heap.size,2,none⟩=some (bL bN X.k):=by rw[H.cell 2];subst b;rfl
         have bc:W.cell? ⟨wr.heap.size,3,none⟩=some (bL bN X.op):=by rw[H.cell 3];subst b;rfl
         have a5:W.cell? ⟨wr.heap.size,4,none⟩=some (bO X.nm):=by rw[H.cell 4];subst b;rfl
         have bq:W.cell? ⟨wr.heap.size,5,none⟩=some (bL bN X.v.k):=by rw[H.cell 5];subst b;rfl
         have br:W.cell? ⟨wr.heap.size,6,none⟩=some (bL bN X.v.n):=by rw[H.cell 6];subst b;rfl
         have bv:W.cell? ⟨wr.heap.size,7,none⟩=some (bO X.v.s):=by rw[H.cell 7];subst b;rfl
         have bg:W.cell? ⟨wr.heap.size,8,none⟩=some (bP A3 X.v.l.length c3):=by rw[H.cell 8];subst b;rfl
         have bh:W.cell? ⟨wr.heap.size,9,none⟩=some (bP A4 X.ar.length c4):=by rw[H.cell 9];subst b;rfl
         have ac:=Below.refl W.heap.size W;have DU:=qh (show ∀ w',DD W w'->w'.cell? ⟨S,0,none⟩=some (bR (some ⟨T,0,none⟩))/\w'.cell? ⟨wr.heap.size,2,none⟩=some (bL bN X.k)/\w'.cell? ⟨wr.heap.size,3,none⟩=some (bL bN X.op)/\w'.cell? ⟨wr.heap.size,4,none⟩=some (bO X.nm)/\w'.cell? ⟨wr.heap.size,5,none⟩=some (bL bN X.v.k)/\w'.cell? ⟨wr.heap.size,6,none⟩=some (bL bN X.v.n)/\w'.cell? ⟨wr.heap.size,7,none⟩=some (bO X.v.s)/\w'.cell? ⟨wr.heap.size,8,none⟩=some (bP A3 X.v.l.length c3)/\w'.cell? ⟨wr.heap.size,9,none⟩=some (bP A4 X.ar.length c4)/\DD W w' from λ w' g=>⟨Below.cell_of g O,Below.cell_of g bs,Below.cell_of g bc,Below.cell_of g a5,Below.cell_of g bq,Below.cell_of g br,Below.cell_of g bv,Below.cell_of g bg,Below.cell_of g bh,g⟩);clear b U H av aZ hI hr;go_upto_region 22 with (fail);go_region_held3 (λ w'=>w'.cell? ⟨S,0,none⟩=some (bR (some ⟨T,0,none⟩))/\w'.cell? ⟨wr.heap.size,2,none⟩=some (bL bN X.k)/\w'.cell? ⟨wr.heap.size,3,none⟩=some (bL bN X.op)/\w'.cell? ⟨wr.heap.size,4,none⟩=some (bO X.nm)/\w'.cell? ⟨wr.heap.size,5,none⟩=some (bL bN X.v.k)/\w'.cell? ⟨wr.heap.size,6,none⟩=some (bL bN X.v.n)/\w'.cell? ⟨wr.heap.size,7,none⟩=some (bO X.v.s)/\w'.cell? ⟨wr.heap.size,8,none⟩=some (bP A3 X.v.l.length c3)/\w'.cell? ⟨wr.heap.size,9,none⟩=some (bP A4 X.ar.length c4)/\DD W w')
          (first | exact DU.o _ ac | exact DU.o _ ac.drew | exact DU.o _ al | exact DU.o _ al.drew | exact DU.o _ ag)
          (first
           | (go_at_call 169;(with_reducible refine (KI.o _ ac.drew).mono ?_);rintro e6 w6 ⟨⟨v6,rfl,A6,c6,rfl,Wj,ax⟩,al⟩;have ar:=qh (b1 Wj ax);clear Wj ax)
           | (go_at_call 120;(with_reducible refine (KT.o _ A6 c6 al ar.o.1 ar.o.2).mono ?_);rintro e7 w7 ⟨rfl,ag⟩))
         all_goals
          have a8:=d.trans ((y.trans (ag.mono y.size)).mono d.size);have bn:=y.trans (ag.mono y.size);by_cases hr0:r.2=0
          .have o:=qh (show R=if qK F true (bT (l.drop (q+1)))≠0 then qK F true (bT (l.drop (q+1))) else rr from (uM.o.trans (if_neg (λ h=>h hr0)))▸ae.o);obtain⟨g0,bm⟩:=iP hr0;clear hr0;go_wp2;go_roundw
           case rel=>exact⟨q+1,by go_num,M.o,o,bn⟩
           case measure =>
            have:=M.o
            first | (simp[intOf];done) | (simp[intOf];omega)
          .have o:=qh (show R=r.2 from ae.o.trans (by rw[uM.o,if_pos hr0,if_pos hr0]));obtain⟨g0,bm⟩:=fH hr0;clear hr0;go_wp2;go_ret;exact⟨aj o.o.symm,a8⟩
        .have e:q=l.length:=by omega
         subst e;have o:=qh (show R=rr from HQ.o.trans (by rw[cu];rfl));have a9:=qh (show R=Np F a (p.drop (k+1)) from o.o.trans bo.o.symm);go_wp2;go_roundw
         case rel=>exact⟨k+1,by go_num,aV.o,a9,d.trans (gK.mono d.size)⟩
         case measure =>
          have:=aV.o
          first | (simp[intOf];done) | (simp[intOf];omega)
   .have e:k=p.length:=by omega
    subst e;have o:=qh (show R=0 from HD.o.trans (by rw[cu];rfl));go_wp2;go_ret;exact⟨aj o.o.symm,C⟩
end
open Go.RowKit
structure jR (w:World) (b:Nat) (l:List Int):Prop where
 ex:∃ D,w.ownsMap lM 3 R0 b l.length D/\Maps.IsMap D/\∀ (s:Int) zd,D.atKey (.int .i64 s) zd=if s∈l then .held (.bool true) else zd
theorem ajG {s:Int} (h:1<=s/\s<=999):keyOf lM 3 (.int .i64 s)=some (.int .i64 s):=Maps.keyOf_int_mk underlying3 (by simp only[Lit.wf,Bool.and_eq_true,decide_eq_true_eq];rw[show IntKind.i64.min = -9223372036854775808 by rfl,show IntKind.i64.max=9223372036854775807 by rfl];omega)
theorem jR.made (w:World):jR (w.alloc (.map #[] 0)) w.heap.size []:=⟨⟨.map [],World.ownsMap_made w _ _ _,Maps.isMap_empty,λ _ _=>rfl⟩⟩
theorem jR.lt {w:World} {b:Nat} {l:List Int} (h:jR w b l):b<w.heap.size:=h.ex.choose_spec.1.lt
theorem jR.below {w w':World} {b:Nat} {l:List Int} (h:jR w b l) (g:DD w w'):jR w' b l:=by
 have c:=h.lt;obtain⟨D,⟨i,a,e,f⟩,d,j⟩:=h.ex;exact⟨⟨D,⟨i,a,(g.block b c).trans e,f⟩,d,j⟩⟩
theorem jR.get {w:World} {b:Nat} {l:List Int} (h:jR w b l) {s:Int} (f:1<=s/\s<=999) :
  (Instr.lookup 205 (.map (some b)) (bL bN s) false).run lM w = .ok (bS (decide (s∈l))) w:=by
 obtain⟨D,g,j,i⟩:=h.ex;obtain⟨v,ps,c,d⟩:=g.lookup (Maps.int_keyed underlying3) underlying205 (by kernel_rfl:(zeroValue 4).run lM w = .ok (.bool false) w) (zd:=.held (.bool false)) (zp:=[]) rfl (ajG f);rw[c];have e:=i s (.held (.bool false));have a:(DataW.held v:DataW Value)=D.atKey (.int .i64 s) (.held (.bool false)):=by
  unfold R0 at d;exact (Prod.mk.inj (Option.some.inj d)).1
 rw[e] at a;by_cases hm:s∈l
 .rw[if_pos hm] at a;rw[DataW.held.inj a,decide_eq_true hm]
 .rw[if_neg hm] at a;rw[DataW.held.inj a,decide_eq_false hm]
theorem zC {w:World} {f:Array Oper} {c:List Oper} {o:Oper} {a:Act} {Q:Exit->Act->World->Prop} (A:o.guard=none) (m x v:Operand) (g:o.op=Op.mapUpdate 205 m x v)
  {b:Nat} {l:List Int} {s:Int} (q:a.eval m = .map (some b)) (d:jR w b l) (y:l.length<maxLen) (k:a.eval x = bL bN s) (j:a.eval v = bS true) (r:1<=s/\s<=999)
  (B:∀ w',jR w' b (l ++ [s])->w.grownBy w' (some b)->wpList lM f Q c (a.put o.dst undef) w') :
  wpList lM f Q (o :: c) a w:=by
 obtain⟨D,u,i,z⟩:=d.ex;refine wpList_mapUpdate_own w A m x v _ g 3 4 (Maps.int_keyed underlying3) underlying205 R0 b l.length D q u y (.int .i64 s) (.bool true) (.int .i64 s) k j (ajG r) (.held (.bool true)) [] rfl
  (λ w' n p=>B w' ⟨⟨_,by rw[b2];exact n,i.put _ _,λ t zd=>?_⟩⟩ p)
 by_cases h:s=t
 .subst h;rw[Maps.atKey_put_same i (show WideAt.IsKeyLit (.int _ _) from trivial),if_pos (by simp)]
 .rw[Maps.atKey_put_other (λ e=>h (by injection e with _ e;exact e.symm)),z t zd];simp[show ¬ t=s from λ e=>h e.symm]
end Go.Proofs.YtcnagconagpkcaaGreatDoor
