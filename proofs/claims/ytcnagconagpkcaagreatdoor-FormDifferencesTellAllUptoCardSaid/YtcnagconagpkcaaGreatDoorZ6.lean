/- Lemmas. -/
import Derived.Test.YtcnagconagpkcaaGreatDoorZ5
import Derived.Deep.MidRow
import Derived.Deep.WholeRow
open Go.Value renaming int->aA, string->aE, slice->aL, pointer->aM, bool->aR, oneCell'->a3
open Go.IntKind renaming i64->aD
open Go.Ending renaming returned->aX
open And renaming intro->aZ
open Classical renaming em->a4
namespace Go.Proofs.YtcnagconagpkcaaGreatDoor
open Go.RowKit
attribute [local go_sem ↓] Go.wp_at_zero Go.wp_at_succ
set_option maxHeartbeats 4000000
set_option maxRecDepth 100000
theorem SE {N:List ah} (b:eH N):∀ (k:Nat) (n:Int),n<N.length->n<k->∀ y∈ups N n,0<=y/\y<N.length
 | 0,n,_,h,y,a=>by rw[uj (by omega)] at a;cases a
 | k+1,n,hn,h,y,a=>by
  by_cases h0:n<0
  .rw[uj h0] at a;cases a
  .obtain⟨i,rfl⟩:∃ i:Nat,n=i:=⟨n.toNat,by omega⟩;have c:i<N.length:=by omega
   obtain⟨e,d⟩:=b i c;rw[wB b c] at a;rcases List.mem_cons.1 a with rfl | a
   .omega
   .exact SE b k N[i].par (by omega) (by omega) y a
theorem abt {N:List ah} (a:eH N) {n:Nat} (c:n<N.length):∀ y∈zH N n,0<=y/\y<N.length:=λ y b=>SE a (n+1) n (by omega) (by omega) y (List.mem_reverse.1 b)
theorem SG {N:List ah} (a:eH N) {n:Nat} (b:n<N.length):(zH N n).length<=n+1:=by
 unfold zH;rw[List.length_reverse];exact JP a (n+1) n (by omega) (by omega)
theorem Uw {N:List ah} {X Y:List Int} {k:Nat} (a:k<X.length) (b:k<Y.length):ug N (X.drop k) (Y.drop k)=if X[k]=Y[k] then ug N (X.drop (k+1)) (Y.drop (k+1)) else decide ((je N X[k]).par<0) || decide ((je N (je N X[k]).par).it.k≠2) || !(je N (je N X[k]).par).it.sh:=by
 rw[List.drop_eq_getElem_cons a,List.drop_eq_getElem_cons b,ug]
theorem Np {N:List ah} {X Y:List Int} {k:Nat} (h:¬ (k<X.length/\k<Y.length)):ug N (X.drop k) (Y.drop k)=true:=by
 by_cases hx:k<X.length
 .have e:Y.drop k = []:=List.drop_eq_nil_of_le (by omega);rw[e];cases X.drop k <;> rfl
 .have e:X.drop k = []:=List.drop_eq_nil_of_le (by omega);rw[e];cases Y.drop k <;> rfl
theorem xG {w:World} {B0 J m1 m2 m3:Nat} {x:ku} {f:aG} {N:List ah} {K:aV} (h:aJ w B0 J m1 m2 m3 x f N K) (o:eH N) (a n:Nat) (ha:a<N.length) (hn:n<N.length) :
  CS 174 #[aM (some ⟨J,0,none⟩),aA aD a,aA aD n] w (aR (jo N a n)):=by
 have O:=qh (show jo N a n=(decide ((a:Int)<n) && ug N (zH N a) (zH N n)) from rfl);by_cases h0:n<=a
 .have HR:=qh (show jo N a n=false by rw[O.o,decide_eq_false (by omega)];rfl);go_enter Tryz.func174,Tryz.ntmps174;go_wp2;go_ret;exact⟨aj (by rw[HR.o]),Below.refl _ _⟩
 have H1:=qh (SC h o a ha);have H2:=qh (λ (w1:World) (V:EG w w1)=>SC (h.keep V) o n hn);have s:=qh (show jo N a n=ug N (zH N a) (zH N n) by rw[O.o,decide_eq_true (by omega)];rfl);have ab:=SG o ha;have S:=SG o hn;have F:=qh (abt o ha);have HP:=qh o;have ac:=h.cap;have su:=h.nodes.1;have HK:=qh (λ (wr:World) (V:EG w wr) (i:Nat) (E:i<N.length)=>show ∃ ad,x.AN=some ad/\wr.cell? ⟨J,5,none⟩=some (aL (some ad) N.length x.cn)/\wr.cell? (ad.add (i*23))=some (aA aD N[i].it.k)/\wr.cell? ⟨(ad.add (i*23)).block,(ad.add (i*23)).off+5,none⟩=some (aR N[i].it.sh)/\wr.cell? ⟨(ad.add (i*23)).block,(ad.add (i*23)).off+19,none⟩=some (aA aD N[i].par) from by
  have y:=h.keep V;obtain⟨ad,A,c,H,-,Z,-,T,-,p0,-,-,-⟩:=y.WH E;have U:wr.cell? ⟨J,5,none⟩=some (aL x.AN N.length x.cn):=y.blk.cell 5;rw[H] at U;exact⟨ad,H,U,Z,T,p0⟩)
 obtain⟨X,hX⟩:=af (zH N a);obtain⟨Y,hY⟩:=af (zH N n);rw[hX] at H1 s ab F;rw[hY] at H2 s S;have ae:(a:Int)<n:=by omega
 clear h o hX hY O h0;go_enter Tryz.func174,Tryz.ntmps174;go_wp2_with (first
  | (go_at_call 210;(with_reducible refine H1.o.mono ?_);rintro e1 w1 ⟨⟨vx,rfl,W⟩,t⟩)
  | (go_at_call 210;(with_reducible refine (H2.o _ t).mono ?_);rintro e2 w2 ⟨⟨vy,rfl,oy⟩,r⟩))
 obtain⟨AX,cx,rfl⟩:=jT W;obtain⟨AY,cy,rfl⟩:=jT oy;have aa:=r.mono t.size;have m:=t.trans aa;have HX:=qh ((Reads.fM W).below r);have P:=qh (Reads.fM oy);clear W oy;go_loopw [9] (λ i wr=>∃ k:Nat,i = aA aD k/\k<=301/\Hid (jo N a n=ug N (X.drop k) (Y.drop k))/\EG w2 wr) (λ i _=>302 - (intOf i).toNat)
 case atStart=>exact⟨0,rfl,by omega,s,Below.refl _ _⟩
 case round =>
  obtain⟨k,rfl,hk,M,g⟩:=hrel;have d:=m.trans (g.mono m.size);have HX:=qh (HX.o.below (g.mono r.size));have P:=qh (P.o.below g);by_cases hkx:k<X.length
  .by_cases hky:k<Y.length
   .obtain⟨ax,u,rfl,-,hu,qx⟩:=HX.o.at_ hkx;obtain⟨ay,v,rfl,-,hv,qy⟩:=P.o.at_ hky;obtain⟨_,rfl⟩:=kD _ _ _ _ hu;obtain⟨_,rfl⟩:=kD _ _ _ _ hv;have G:=qh (M.o.trans (Uw hkx hky));have Q:=qh (F.o X[k] (List.getElem_mem hkx));obtain⟨X0,I⟩:=af (X[k]);obtain⟨Y0,B⟩:=af (Y[k]);rw[I] at qx G Q;rw[B] at qy G;clear hu hv I B;by_cases hxy:X0=Y0
    .subst hxy;have HF:=qh (G.o.trans (if_pos rfl));go_upto_region 7 with (fail);go_region;go_wp2;go_roundw
     case rel=>exact⟨k+1,by go_num,by omega,HF,by first | exact g | exact g.drew⟩
     case measure =>
      simp[intOf];omega
    .obtain⟨i,rfl⟩:∃ i:Nat,X0=i:=⟨X0.toNat,by have:=Q.o;omega⟩;have E:i<N.length:=by have:=Q.o;omega
     obtain⟨ad,H,U,-,-,p0⟩:=HK.o wr d i E;have b:=qh (G.o.trans (if_neg hxy));rw[iY E] at b;have L:=qh (HP.o i E);obtain⟨p,hp⟩:=af (N[i].par);rw[hp] at b p0 L;clear hp;by_cases hp0:p<0
     .have l:=qh (show jo N a n=true by rw[b.o,decide_eq_true hp0];rfl);go_upto_region 7 with (fail);go_region;go_upto_region 8 with (fail);go_region;go_wp2;go_ret;exact⟨aj (by rw[l.o]),by first | exact d | exact d.drew | exact d.drew.drew⟩
     .obtain⟨j,rfl⟩:∃ j:Nat,p=j:=⟨p.toNat,by omega⟩;have hj:j<N.length:=by have:=L.o;omega
      obtain⟨R,D,-,Z,T,-⟩:=HK.o wr d j hj;have e':R=ad:=Option.some.inj (D.symm.trans H);subst e';rw[iY hj,decide_eq_false hp0,Bool.false_or] at b;obtain⟨kk,z⟩:=af (N[j].it.k);obtain⟨ss,C⟩:=af (N[j].it.sh);rw[z] at Z b;rw[C] at T b;have L:=qh L.o;clear z C H D G;by_cases y:kk=2
      .subst y;have l:=qh (show jo N a n=!ss by rw[b.o];rfl);go_upto_region 7 with (fail);go_region;go_upto_region 8 with (fail);go_region;go_wp2;go_ret;exact⟨aj (by rw[l.o]),by first | exact d | exact d.drew | exact d.drew.drew⟩
      .have l:=qh (show jo N a n=true by rw[b.o,decide_eq_true y];rfl);have ak:(kk != 2)=true:=by simpa using y
       go_upto_region 7 with (fail);go_region;go_upto_region 8 with (fail);go_region;go_wp2;go_ret;exact⟨aj (by rw[l.o]),by first | exact d | exact d.drew | exact d.drew.drew⟩
   .have l:=qh (M.o.trans (Np (λ q=>hky q.2)));go_wp2;go_ret;exact⟨aj (by rw[l.o]),by first | exact d | exact d.drew | exact d.drew.drew⟩
  .have l:=qh (M.o.trans (Np (λ q=>hkx q.1)));go_wp2;go_ret;exact⟨aj (by rw[l.o]),by first | exact d | exact d.drew | exact d.drew.drew⟩
end Go.Proofs.YtcnagconagpkcaaGreatDoor
namespace Go.Proofs.YtcnagconagpkcaaGreatDoor
open Go.RowKit Go.Lib
attribute [local go_sem ↓] Go.wp_at_zero Go.wp_at_succ
set_option maxHeartbeats 4000000
set_option maxRecDepth 100000
def qG (t:TypeId) (v:Value):Sem Value:=Instr.loadAt t v
def Hy (t:TypeId) (p v:Value):Sem Unit:=Instr.storeAt t p v
theorem ld_item (ρ:Operand->Value) (dst:Option Tmp) (x:Operand) (ty:TypeId) (pos:String) (after:Array Edge) (guard:Option (Nat × Bool)) :
  execOp ρ { dst,op:=.load 59 x,type:=ty,pos,after,guard } = (do pure (.value (<- qG 59 (ρ x)))):=rfl
theorem st_item (ρ:Operand->Value) (dst:Option Tmp) (x y:Operand) (ty:TypeId) (pos:String) (after:Array Edge) (guard:Option (Nat × Bool)) :
  execOp ρ { dst,op:=.store 59 x y,type:=ty,pos,after,guard } = (do Hy 59 (ρ x) (ρ y);pure .skip):=rfl
theorem ld_node (ρ:Operand->Value) (dst:Option Tmp) (x:Operand) (ty:TypeId) (pos:String) (after:Array Edge) (guard:Option (Nat × Bool)) :
  execOp ρ { dst,op:=.load 110 x,type:=ty,pos,after,guard } = (do pure (.value (<- qG 110 (ρ x)))):=rfl
theorem st_node (ρ:Operand->Value) (dst:Option Tmp) (x y:Operand) (ty:TypeId) (pos:String) (after:Array Edge) (guard:Option (Nat × Bool)) :
  execOp ρ { dst,op:=.store 110 x y,type:=ty,pos,after,guard } = (do Hy 110 (ρ x) (ρ y);pure .skip):=rfl
theorem ld_ans (ρ:Operand->Value) (dst:Option Tmp) (x:Operand) (ty:TypeId) (pos:String) (after:Array Edge) (guard:Option (Nat × Bool)) :
  execOp ρ { dst,op:=.load 57 x,type:=ty,pos,after,guard } = (do pure (.value (<- qG 57 (ρ x)))):=rfl
theorem st_ans (ρ:Operand->Value) (dst:Option Tmp) (x y:Operand) (ty:TypeId) (pos:String) (after:Array Edge) (guard:Option (Nat × Bool)) :
  execOp ρ { dst,op:=.store 57 x y,type:=ty,pos,after,guard } = (do Hy 57 (ρ x) (ρ y);pure .skip):=rfl
theorem ld_part (ρ:Operand->Value) (dst:Option Tmp) (x:Operand) (ty:TypeId) (pos:String) (after:Array Edge) (guard:Option (Nat × Bool)) :
  execOp ρ { dst,op:=.load 266 x,type:=ty,pos,after,guard } = (do pure (.value (<- qG 266 (ρ x)))):=rfl
theorem st_part (ρ:Operand->Value) (dst:Option Tmp) (x y:Operand) (ty:TypeId) (pos:String) (after:Array Edge) (guard:Option (Nat × Bool)) :
  execOp ρ { dst,op:=.store 266 x y,type:=ty,pos,after,guard } = (do Hy 266 (ρ x) (ρ y);pure .skip):=rfl
theorem ld_rule (ρ:Operand->Value) (dst:Option Tmp) (x:Operand) (ty:TypeId) (pos:String) (after:Array Edge) (guard:Option (Nat × Bool)) :
  execOp ρ { dst,op:=.load 144 x,type:=ty,pos,after,guard } = (do pure (.value (<- qG 144 (ρ x)))):=rfl
theorem st_rule (ρ:Operand->Value) (dst:Option Tmp) (x y:Operand) (ty:TypeId) (pos:String) (after:Array Edge) (guard:Option (Nat × Bool)) :
  execOp ρ { dst,op:=.store 144 x y,type:=ty,pos,after,guard } = (do Hy 144 (ρ x) (ρ y);pure .skip):=rfl
theorem ld_form (ρ:Operand->Value) (dst:Option Tmp) (x:Operand) (ty:TypeId) (pos:String) (after:Array Edge) (guard:Option (Nat × Bool)) :
  execOp ρ { dst,op:=.load 26 x,type:=ty,pos,after,guard } = (do pure (.value (<- qG 26 (ρ x)))):=rfl
theorem st_form (ρ:Operand->Value) (dst:Option Tmp) (x y:Operand) (ty:TypeId) (pos:String) (after:Array Edge) (guard:Option (Nat × Bool)) :
  execOp ρ { dst,op:=.store 26 x y,type:=ty,pos,after,guard } = (do Hy 26 (ρ x) (ρ y);pure .skip):=rfl
theorem gu {w:World} {t:TypeId} {ad:Addr} {cs:List Value} {d:TypeDesc} (g:Tryz.prog.underlying t=some d) (h:d.isRow=true) (b:(Tryz.prog.info? t).map (·.size)=some cs.length) (c:∀ j u,cs[j]?=some u->w.cell? (ad.add j)=some u) :
  (qG t (aM (some ad))).run Tryz.prog w = .ok (.agg cs.toArray) w:=by
 have f:(loadCells ad cs.length).run Tryz.prog w = .ok cs.toArray w:=run_loadCells_list (P:=Tryz.prog) w ad cs c;cases hq:Tryz.prog.info? t with
 | none=>simp[hq] at b
 | some i =>
  have e:i.size=cs.length:=by simpa [hq] using b
  have a:(isAgg t).run Tryz.prog w = .ok true w:=by
   unfold isAgg;rw[Sem.run_bind,run_underlying g w];cases d <;> simp_all
  simp[qG,Instr.loadAt,Instr.sureAddr,loadVar,Sem.run_bind,a,sizeOf,typeInfo,hq,e,f]
theorem lI {w:World} {t:TypeId} {c c':Array Value} (b:(Tryz.prog.info? t).map (·.size)=some c'.size) (d:c.size=c'.size) (a:c'.all (·.oneCell')=true) :
  (Hy t (aM (some ⟨w.heap.size,0,none⟩)) (.agg c')).run Tryz.prog (w.alloc (.cells c t)) = .ok () (w.alloc (.cells c' t)):=run_storeAt_new w t c c' b d a
theorem aB (w:World) (o:Obj):EG w (w.alloc o):=(Below.refl _ w).alloc (Nat.le_refl _) _
end Go.Proofs.YtcnagconagpkcaaGreatDoor
namespace Go.Proofs.YtcnagconagpkcaaGreatDoor
open Go.RowKit
attribute [local go_sem ↓] Go.wp_at_zero Go.wp_at_succ
attribute [local go_sem ↓] ld_item st_item ld_node st_node ld_ans st_ans ld_part st_part ld_rule st_rule ld_form st_form
set_option maxHeartbeats 4000000
set_option maxRecDepth 100000
theorem aJ.oW {w:World} {B0 d C t y:Nat} {x:ku} {f:aG} {N:List ah} {K:aV} (h:aJ w B0 d C t y x f N K) {i:Nat} (z:i<N.length) :
  ∃ ad r m l s k q n p o a B1 b1 B2 b2 B3 b3 A c,x.AN=some ad/\w.cell? ⟨d,5,none⟩=some (aL (some ad) N.length x.cn)/\bW w B0 N[i].it (itC N[i].it r m l s k q n p o a (Nj N[i].it.ans B1 b1 B2 b2 B3 b3))/\(nP w w.heap.size A c N[i].lo/\N[i].lo.length<=1000) /\
   ∀ j u,((aA aD N[i].it.k)::(aE N[i].it.nm)::(aL r N[i].it.iff.length m)::(aL l N[i].it.ph.length s)::(aL k N[i].it.items.length q)::(aR N[i].it.sh)::(aL n N[i].it.cnt.length p)::(aE N[i].it.over)::(aA aD N[i].it.ans.k)::(aA aD N[i].it.ans.lo)::(aA aD N[i].it.ans.hi)::(aA aD N[i].it.ans.pl)::(aE N[i].it.ans.ls)::(aL B1 N[i].it.ans.only.length b1)::(aR N[i].it.ans.sh)::(aL B2 N[i].it.ans.rs.length b2)::(aR N[i].it.ans.need)::(aL B3 N[i].it.ans.ch.length b3)::(aL o N[i].it.cmp.length a)::[aA aD N[i].par,aA aD N[i].kV,aA aD N[i].dJ,aL A N[i].lo.length c])[j]?=some u->w.cell? ((ad.add (i*23)).add j)=some u:=by
 obtain⟨ad,cs,e,D,⟨E,A,c,rfl,hit,g,B,-⟩,v⟩:=h.nodes.at_ z;have a:w.cell? ⟨d,5,none⟩=some (aL x.AN N.length x.cn):=h.blk.cell 5;rw[e] at a;have b:=hit;cases hit;exact⟨ad,_,_,_,_,_,_,_,_,_,_,_,_,_,_,_,_,A,c,e,a,b,⟨g,B⟩,v⟩
theorem aS.get {w:World} {b:Nat} {d:List (ByteArray × Value)} (h:aS w b d) {t e:TypeId} (l:Tryz.prog.underlying t=some (.map 9 e)) {z:Value} (k:(zeroValue e).run Tryz.prog w = .ok z w) {s:ByteArray} (j:s.size<=maxLen) :
  (Instr.lookup t (.map (some b)) (aE s) false).run Tryz.prog w = .ok ((gz d s).getD z) w:=by
 obtain⟨D,m,n,g⟩:=h.ex;obtain⟨v,ps,c,f⟩:=m.lookup (Maps.string_keyed Tryz.underlying9) l k (zd:=.held z) (zp:=[]) rfl (keyS j);rw[c];have i:=g s (.held z);have a:(DataW.held v:DataW Value)=D.atKey (.string s.data.toList) (.held z):=by
  unfold R0 at f;exact (Prod.mk.inj (Option.some.inj f)).1
 rw[i] at a;cases hg:gz d s with
 | none=>rw[hg] at a;rw[DataW.held.inj a];rfl
 | some u=>rw[hg] at a;rw[DataW.held.inj a];rfl
theorem vC {w:World} {ad:Addr} {cs:List Value} (a:cs.length=19) (b:∀ j u,cs[j]?=some u->w.cell? (ad.add j)=some u):(qG 59 (aM (some ad))).run Tryz.prog w = .ok (.agg cs.toArray) w:=
 gu Tryz.underlying59 rfl (by rw[a];kernel_rfl) b
theorem Nq {w:World} {cs:List Value} (a:cs.length=19) (b:∀ v∈cs,v.oneCell'=true):(Hy 59 (aM (some ⟨w.heap.size,0,none⟩)) (.agg cs.toArray)).run Tryz.prog (w.alloc (.cells #[aA aD 0,aE ⟨#[]⟩,aL none 0 0,aL none 0 0,aL none 0 0,aR false,aL none 0 0,aE ⟨#[]⟩,aA aD 0,aA aD 0,aA aD 0,aA aD 0,aE ⟨#[]⟩,aL none 0 0,aR false,aL none 0 0,aR false,aL none 0 0,aL none 0 0] 59 (0,0))) = .ok () (w.alloc (.cells cs.toArray 59 (0,0))):=
 lI (by rw[show cs.toArray.size=19 from a];kernel_rfl) (show 19=cs.toArray.size from a.symm) (by rw[<- Array.all_toList];exact List.all_eq_true.2 b)
theorem XM {w:World} {B0 s m1 V r:Nat} {x:ku} {f:aG} {N:List ah} {K:aV} (h:aJ w B0 s m1 V r x f N K) (n:Nat) (X:n<N.length) :
  CS 167 #[aM (some ⟨s,0,none⟩),aA aD n] w (aA aD (Sz K N[n])):=by
 have Q:=h.cap;have su:=h.nodes.1;obtain⟨ad,I,y,v,J,t,H,z,F,C,q,B1,b1,B2,b2,B3,b3,A,c,hA,LM,hit,i,o⟩:=h.oW X;obtain⟨P,G,T⟩:=h.kd;obtain⟨d,R⟩:=af (N[n]);rw[R] at hit i o ⊢;have B:d.it.nm.size<=maxLen:=by cases hit;assumption
 obtain⟨cs,b⟩:∃ cs:List Value,[aA aD d.it.k,aE d.it.nm,aL I d.it.iff.length y,aL v d.it.ph.length J,aL t d.it.items.length H,aR d.it.sh,aL z d.it.cnt.length F,aE d.it.over,aA aD d.it.ans.k,aA aD d.it.ans.lo,aA aD d.it.ans.hi,aA aD d.it.ans.pl,aE d.it.ans.ls,aL B1 d.it.ans.only.length b1,aR d.it.ans.sh,aL B2 d.it.ans.rs.length b2,aR d.it.ans.need,aL B3 d.it.ans.ch.length b3,aL C d.it.cmp.length q]=cs:=⟨_,rfl⟩;have M:cs.length=19:=by subst b;rfl
 have aa:=vC (w:=w) M (ad:=ad.add (n*23)) (λ j u O=>o j u (by subst b;rw[show ((aA aD d.it.k)::(aE d.it.nm)::(aL I d.it.iff.length y)::(aL v d.it.ph.length J)::(aL t d.it.items.length H)::(aR d.it.sh)::(aL z d.it.cnt.length F)::(aE d.it.over)::(aA aD d.it.ans.k)::(aA aD d.it.ans.lo)::(aA aD d.it.ans.hi)::(aA aD d.it.ans.pl)::(aE d.it.ans.ls)::(aL B1 d.it.ans.only.length b1)::(aR d.it.ans.sh)::(aL B2 d.it.ans.rs.length b2)::(aR d.it.ans.need)::(aL B3 d.it.ans.ch.length b3)::(aL C d.it.cmp.length q)::[aA aD d.par,aA aD d.kV,aA aD d.dJ,aL A d.lo.length c]:List Value) = [aA aD d.it.k,aE d.it.nm,aL I d.it.iff.length y,aL v d.it.ph.length J,aL t d.it.items.length H,aR d.it.sh,aL z d.it.cnt.length F,aE d.it.over,aA aD d.it.ans.k,aA aD d.it.ans.lo,aA aD d.it.ans.hi,aA aD d.it.ans.pl,aE d.it.ans.ls,aL B1 d.it.ans.only.length b1,aR d.it.ans.sh,aL B2 d.it.ans.rs.length b2,aR d.it.ans.need,aL B3 d.it.ans.ch.length b3,aL C d.it.cmp.length q] ++ [aA aD d.par,aA aD d.kV,aA aD d.dJ,aL A d.lo.length c] from rfl];rw[List.getElem?_append_left (List.getElem?_eq_some_iff.1 O).1];exact O));have Z:=Nq (w:=w) M (by subst b;simp[a3]);obtain⟨W,l⟩:=aH (w.alloc (.cells cs.toArray 59 (0,0)));have a:EG w W:=l▸aB w _;have k:ag W w.heap.size 59 cs.toArray:=l▸ag.new w _ _;have U:=qh h;have L:=qh (aZ (G.below a G.lt) T);have m:=qh b;clear hit i o R hA h G T b;have S:=qh (show Sz K d=if d.it.k=4 then d.it.ans.k else Sv K d.it.nm from rfl);go_enter Tryz.func167,Tryz.ntmps167;go_upto_region 2 with (fail);rw[<- l];clear LM;clear l;rw[<- m.o] at k;have q0:W.cell? ⟨w.heap.size,0,none⟩=_:=k.cell 0;have q1:W.cell? ⟨w.heap.size,1,none⟩=_:=k.cell 1;have q8:W.cell? ⟨w.heap.size,8,none⟩=_:=k.cell 8;simp only[List.getElem?_toArray,List.getElem?_cons_zero,List.getElem?_cons_succ] at q0 q1 q8;by_cases h4:d.it.k=4
 .have E:=qh (S.o.trans (if_pos h4));have D:(d.it.k == 4)=true:=by simp[h4]
  clear h4;go_wp2;go_ret;exact⟨ai (by rw[E.o]),a⟩
 .have E:=qh (S.o.trans (if_neg h4));have D:(d.it.k == 4)=false:=by simp[h4]
  have c8:W.cell? ⟨s,8,none⟩=some (.map (some r)):=(U.o.keep a).blk.cell 8;have Y:=(show aS W.drew r P from L.o.1.same rfl).get Tryz.underlying112 (XK W.drew) B;have g:((gz P d.it.nm).getD (.int .i64 0)) = .int .i64 (Sv K d.it.nm):=by
   rw[L.o.2 d.it.nm];unfold Sv;cases K.find? (λ p=>decide (p.1=d.it.nm)) <;> rfl
  rw[g] at Y;clear g;go_upto_region 4 with (fail);go_region;go_wp2;go_ret;exact⟨ai (by rw[E.o]),by first | exact a | exact a.drew⟩
end Go.Proofs.YtcnagconagpkcaaGreatDoor
namespace Go.Proofs.YtcnagconagpkcaaGreatDoor
open Go.RowKit
def DN {α:Type} (T:TypeId) (k:Nat) (P:World->Nat->α->List Value->Prop) (w:World) (B:Nat) (v:Value) (l:List α):Prop:=
 ∃ cs,w.ownsRow B T k v l.length cs/\∀ i (h:i<l.length),P w B l[i] ((cs.drop (i*k)).take k)
def Dn (w:World) (B:Nat) (d:aY) (cs:List Value):Prop:=
 ∃ A c,cs = [aE d.nm,aA aD d.kind,aL A d.loops.length c]/\w.ownsRow B 9 1 (aL A d.loops.length c) d.loops.length (iZ d.loops)/\d.nm.size<=maxLen/\d.loops.length<=maxLen/\∀ s∈d.loops,s.size<=maxLen
def Fe (w:World) (B:Nat) (d:bP) (cs:List Value):Prop:=
 ∃ A c,cs = [aE d.nm,aL A d.loops.length c]/\w.ownsRow B 9 1 (aL A d.loops.length c) d.loops.length (iZ d.loops)/\d.nm.size<=maxLen/\d.loops.length<=maxLen/\∀ s∈d.loops,s.size<=maxLen
theorem Ns {w:World} {B n c:Nat} {A:Option Addr} {e:TypeId} {b:List Value} (h:w.ownsRow B e 1 (aL A n c) n b):n<=c:=by
 rcases h.2 with ⟨i,-⟩ | ⟨j,a,d,f,-,-,g,-⟩
 .injection i with _ g h2;omega
 .injection f with _ _ e3;omega
theorem dm {w w':World} {B size n:Nat} {e:TypeId} {v:Value} {xs:List Value} (h:w.ownsRow B e size v n xs) (i:EG w w'):w'.ownsRow B e size v n xs:=by
 refine⟨h.1,h.2.imp id ?_⟩;rintro ⟨c,b,a,f,g,d,e3⟩;exact⟨c,b,a,f,g,(i.block c (ag.lt (t:=e) d)).trans d,e3⟩
theorem Dn.at_ {w:World} {B:Nat} {d:aY} {cs:List Value} (h:Dn w B d cs):oP w w.heap.size d cs:=by
 obtain⟨A,c,e,a,g,b,f⟩:=h;exact⟨⟨A,c,e,Reads.fM a,Ns a⟩,g,b,f⟩
theorem Fe.at_ {w:World} {B:Nat} {d:bP} {cs:List Value} (h:Fe w B d cs):oO w w.heap.size d cs:=by
 obtain⟨A,c,e,a,g,b,f⟩:=h;exact⟨⟨A,c,e,Reads.fM a,Ns a⟩,g,b,f⟩
structure Nu {α:Type} (T:TypeId) (P:World->Nat->α->List Value->Prop):Prop where
 later:∀ {w w':World} {B:Nat} {d:α} {cs:List Value},P w B d cs->EG w w'->P w' B d cs
 grown:∀ {w w':World} {B:Nat} {d:α} {cs:List Value} {v:Value} {k n:Nat} {xs:List Value},P w B d cs->w.ownsRow B T k v n xs->w.grownBy w' v.ownBlock->P w' B d cs
theorem sD {w w':World} {B k n i e:Nat} {T a:TypeId} {v u:Value} {p ys:List Value} (h:w.ownsRow B a i u e ys) (j:w.ownsRow B T k v n p) (m:a≠T) (o:w.grownBy w' v.ownBlock):w'.ownsRow B a i u e ys:=by
 refine h.kept o ?_;rcases j.2 with ⟨rfl,-⟩ | ⟨g,c,b,rfl,-,l,-⟩
 .rcases h.2 with ⟨rfl,-⟩ | ⟨q,f,d,rfl,-⟩
  .exact .inl rfl
  .right;simp[Value.ownBlock]
 .right;rw[show (Value.slice (some ⟨g,0,none⟩) n c).ownBlock=some g from rfl];exact jw h (show ag w g T b from l) m
theorem ik:Nu 51 Dn where
 later:=by
  rintro w w' B d cs ⟨A,c,e,a,b⟩ h;exact⟨A,c,e,dm a h,b⟩
 grown:=by
  rintro w w' B d cs v k n i ⟨A,c,e,a,b⟩ f g;exact⟨A,c,e,sD a f (by decide) g,b⟩
theorem nR:Nu 184 Fe where
 later:=by
  rintro w w' B d cs ⟨A,c,e,a,b⟩ h;exact⟨A,c,e,dm a h,b⟩
 grown:=by
  rintro w w' B d cs v k n i ⟨A,c,e,a,b⟩ f g;exact⟨A,c,e,sD a f (by decide) g,b⟩
section
variable {α:Type} {T:TypeId} {k:Nat} {P:World->Nat->α->List Value->Prop} {w w':World} {B:Nat} {v v':Value} {l:List α}
theorem DN.nil:DN T k P w B (aL none 0 0) ([]:List α):=⟨[],World.ownsRow_nil _ _ _ _,λ i h=>by cases h⟩
theorem DN.keep (d:Nu T P) (h:DN T k P w B v l) (a:EG w w'):DN T k P w' B v l:=by
 obtain⟨cs,b,e⟩:=h;exact⟨cs,dm b a,λ i c=>d.later (e i c) a⟩
theorem DN.snoc (b:Nu T P) {d:α} {cs ds:List Value} (a:w.ownsRow B T k v l.length cs) (n:∀ i (h:i<l.length),P w B l[i] ((cs.drop (i*k)).take k)) (f:P w B d ds) (p:ds.length=k)
  (g:w'.ownsRow B T k v' (l.length+1) (cs ++ ds)) (c:w.grownBy w' v.ownBlock):DN T k P w' B v' (l ++ [d]):=by
 have j:cs.length=l.length*k:=a.1;refine⟨cs ++ ds,by rw[List.length_append];exact g,λ i m=>?_⟩;rw[List.length_append,List.length_singleton] at m;by_cases hlt:i<l.length
 .rw[List.getElem_append_left hlt];have o:(i+1)*k<=l.length*k:=Nat.mul_le_mul_right k hlt;rw[Nat.add_mul,Nat.one_mul] at o;rw[List.drop_append_of_le_length (by omega),List.take_append_of_le_length (by rw[List.length_drop];omega)];exact b.grown (n i hlt) a c
 .have e:i=l.length:=by omega
  subst e;rw[<- j,List.drop_append_of_le_length (by omega),List.drop_length,List.nil_append,List.take_of_length_le (by omega)];simp only[List.getElem_append_right (Nat.le_refl _),Nat.sub_self,List.getElem_cons_zero];exact b.grown f a c
end
theorem DN.cells {w:World} {B:Nat} {A:Option Addr} {c:Nat} {l:List aY} (h:DN 51 3 Dn w B (aL A l.length c) l) (d:l.length<=maxLen):fJ w w.heap.size A l:=by
 obtain⟨cs,a,e⟩:=h;exact⟨d,cs,Reads.fM a,λ i b=>(e i b).at_⟩
theorem DN.agr {w:World} {B:Nat} {A:Option Addr} {c:Nat} {l:List bP} (h:DN 184 2 Fe w B (aL A l.length c) l) (d:l.length<=maxLen):qK w w.heap.size A l:=by
 obtain⟨cs,a,e⟩:=h;exact⟨d,cs,Reads.fM a,λ i b=>(e i b).at_⟩
end Go.Proofs.YtcnagconagpkcaaGreatDoor
namespace Go.Proofs.YtcnagconagpkcaaGreatDoor
open Go.RowKit
attribute [local go_sem ↓] Go.wp_at_zero Go.wp_at_succ
attribute [local go_sem ↓] ld_item st_item ld_node st_node ld_ans st_ans ld_part st_part ld_rule st_rule ld_form st_form
set_option maxHeartbeats 4000000
set_option maxRecDepth 100000
theorem ags {e:Func} {s:Tmp} {tmps:Array Value} {T:TypeId} {a:World} {g:Nat} {f k p a0 a1 a2:Value} {Q:Ending->World->Prop} (i:e.results = #[.cell s T]) (o:T=51) (l:tmps[s]?.getD undef = aM (some ⟨g,0,none⟩)) (B:ag a g T #[f,k,p]) (h:∀ W,W=((((a.setCell ⟨g,0,none⟩ a0).setCell ⟨g,1,none⟩ a1).setCell ⟨g,2,none⟩ a2))->Q (aX (.agg #[a0,a1,a2])) W) :
  bodyPost Tryz.prog e Q Exit.ret { tmps:=tmps,defers:=[] } ((((a.setCell ⟨g,0,none⟩ a0).setCell ⟨g,1,none⟩ a1).setCell ⟨g,2,none⟩ a2)):=by
 subst o;obtain⟨W,d⟩:=aH (((((a.setCell ⟨g,0,none⟩ a0).setCell ⟨g,1,none⟩ a1).setCell ⟨g,2,none⟩ a2)));have c:ag W g 51 #[a0,a1,a2]:=by rw[d];exact (((B.dS 0 _).dS 1 _).dS 2 _)
 have b:=d;rw[<- d];have m:W.cell? ⟨g,0,none⟩=some a0:=c.cell 0;have n:W.cell? ⟨g,1,none⟩=some a1:=c.cell 1;have j:W.cell? ⟨g,2,none⟩=some a2:=c.cell 2;exact bodyPost_ret (v:=.agg #[a0,a1,a2]) (by simp[results,i,go_sem,l,m,n,j]) rfl (h W b)
theorem zL {w:World} {B size n:Nat} {e:TypeId} {v:Value} {xs:List Value} (h:w.ownsRow B e size v n xs) {p:Addr} (i:p.block<B) (u:Value):(w.setCell p u).ownsRow B e size v n xs:=by
 refine⟨h.1,h.2.imp id ?_⟩;rintro ⟨c,b,a,d,f,g,e3⟩;exact⟨c,b,a,d,f,(Below.heap_setCell w p u c (by omega)).trans g,e3⟩
theorem below3 {w c:World} {b g:Nat} (h:Below b w c) (a:b<=g) (d f e:Value):Below b w (((c.setCell ⟨g,0,none⟩ d).setCell ⟨g,1,none⟩ f).setCell ⟨g,2,none⟩ e):=
 (((h.setCell (p:=⟨g,0,none⟩) a _).setCell (p:=⟨g,1,none⟩) a _).setCell (p:=⟨g,2,none⟩) a _)
theorem ag.z3 {w:World} {g:Nat} {T:TypeId} {c b a:Value} (h:ag w g T #[c,b,a]):w.cell? ⟨g,0,none⟩=some c/\w.frozen? ⟨g,0,none⟩=false/\w.cell? ⟨g,1,none⟩=some b/\w.frozen? ⟨g,1,none⟩=false/\w.cell? ⟨g,2,none⟩=some a/\w.frozen? ⟨g,2,none⟩=false:=⟨h.cell 0,h.frozen 0,h.cell 1,h.frozen 1,h.cell 2,h.frozen 2⟩
theorem IP {w:World} {B0 B m1 V m3:Nat} {x:ku} {f:aG} {N:List ah} {K:aV} (h:aJ w B0 B m1 V m3 x f N K) (n:Nat) (G:n<N.length) :
  Calls Tryz.prog 110 #[aM (some ⟨B,0,none⟩),aA aD n] w λ e w'=>(∃ cs,e = aX (.agg cs.toArray)/\Dn w' w.heap.size (vg K N[n]) cs)/\EG w w':=by
 have H:=h.cap;have su:=h.nodes.1;obtain⟨ad,A1,c1,A2,c2,A3,c3,A4,c4,A5,c5,B1,b1,B2,b2,B3,b3,A,c,hA,I,hit,k,z⟩:=h.oW G;have D:=qh (λ (w':World) (i:EG w w')=>XM (h.keep i) n G);obtain⟨d,P⟩:=af (N[n]);rw[P] at hit k z D ⊢;have o:d.it.nm.size<=maxLen:=by cases hit;assumption
 have E:w.cell? ⟨(ad.add (n*23)).block,(ad.add (n*23)).off+1,none⟩=some (aE d.it.nm):=z 1 _ rfl;have C:w.cell? ⟨(ad.add (n*23)).block,(ad.add (n*23)).off+22,none⟩=some (aL A d.lo.length c):=z 22 _ rfl;obtain⟨Q,j⟩:=af (Sz K d);rw[j] at D;have F:=qh j;have s:=qh (aZ k o);obtain⟨W,y⟩:=aH (w.alloc (.cells #[aE ⟨#[]⟩,aA aD 0,aL none 0 0] 51 (0,0)));have b:EG w W:=y▸aB w _;have J:ag W w.heap.size 51 #[aE ⟨#[]⟩,aA aD 0,aL none 0 0]:=y▸ag.new w _ _;have u:=qh J;have Z:=qh (show ∀ w',EG w w'->Calls Tryz.prog 38 #[aL A d.lo.length c] w' λ e q=>∃ v,e = aX v/\q.ownsRow w'.heap.size 9 1 v d.lo.length (iZ d.lo)/\EG w' q from λ w' i =>
  (cloneS d.lo A c w.heap.size w' (s.o.1.1.1.below i) (by have:=s.o.1.2;omega)))
 have t:=qh (show ∀ w',EG w w'->w'.cell? ⟨B,5,none⟩=some (aL (some ad) N.length x.cn)/\w'.cell? ⟨(ad.add (n*23)).block,(ad.add (n*23)).off+1,none⟩=some (aE d.it.nm)/\w'.cell? ⟨(ad.add (n*23)).block,(ad.add (n*23)).off+22,none⟩=some (aL A d.lo.length c)/\EG w w' from λ w' i=>⟨Below.cell_of i I,Below.cell_of i E,Below.cell_of i C,i⟩);clear hit k z P hA h j o E C I J;go_enter Tryz.func110,Tryz.ntmps110;go_upto_region 1 with (fail);rw[<- y];clear y;go_region_held3 (λ w'=>w'.cell? ⟨B,5,none⟩=some (aL (some ad) N.length x.cn)/\w'.cell? ⟨(ad.add (n*23)).block,(ad.add (n*23)).off+1,none⟩=some (aE d.it.nm)/\w'.cell? ⟨(ad.add (n*23)).block,(ad.add (n*23)).off+22,none⟩=some (aL A d.lo.length c)/\EG w w')
  (first | exact t.o _ b | exact t.o _ b.drew | exact t.o _ g | exact t.o _ m | exact t.o _ (below3 m (Nat.le_refl _) _ _ _))
  (first
   | (go_at_call 167;(with_reducible refine (D.o _ b.drew).mono ?_);rintro E w1 ⟨rfl,a⟩;have a:EG W w1:=(Below.refl W.heap.size W).drew.trans a;have g:=b.trans (a.mono b.size))
   | (go_at_call 38;(with_reducible refine (Z.o _ g).mono ?_);rintro C w2 ⟨v,rfl,l,p⟩;obtain⟨M,O,rfl⟩:=jT l;have m:=g.trans (p.mono g.size);have r:=(u.o.below a u.o.lt).below p (ag.lt (u.o.below a u.o.lt));obtain⟨U,z0,Y,T,S,z2⟩:=ag.z3 r))
 all_goals
  try clear hHeld
  have X:=qh l;have R:w.heap.size+1<=w1.heap.size:=by have:=a.size;have:=u.o.lt;omega
  clear U z0 Y T S z2 l;go_wp2_with fail;refine ags Tryz.results110 rfl rfl r (λ W9 L=>⟨⟨[aE d.it.nm,aA aD Q,aL M d.lo.length O],rfl,⟨M,O,by rw[<- F.o];rfl,?_,s.o.2,s.o.1.1.2.2.1,s.o.1.1.2.2.2⟩⟩,by rw[L];exact below3 m (Nat.le_refl _) _ _ _⟩);rw[L];exact own_base (zL (zL (zL X.o (by show w.heap.size<_;omega) _) (by show w.heap.size<_;omega) _) (by show w.heap.size<_;omega) _) (by omega)
set_option maxHeartbeats 4000000
set_option maxRecDepth 100000
theorem yl {w:World} {ad:Addr} {cs:List Value} (a:cs.length=23) (b:∀ j u,cs[j]?=some u->w.cell? (ad.add j)=some u):(qG 110 (aM (some ad))).run Tryz.prog w = .ok (.agg cs.toArray) w:=
 gu Tryz.underlying110 rfl (by rw[a];kernel_rfl) b
theorem Dp {w:World} {cs:List Value} (a:cs.length=23) (b:∀ v∈cs,v.oneCell'=true):(Hy 110 (aM (some ⟨w.heap.size,0,none⟩)) (.agg cs.toArray)).run Tryz.prog (w.alloc (.cells #[aA aD 0,aE ⟨#[]⟩,aL none 0 0,aL none 0 0,aL none 0 0,aR false,aL none 0 0,aE ⟨#[]⟩,aA aD 0,aA aD 0,aA aD 0,aA aD 0,aE ⟨#[]⟩,aL none 0 0,aR false,aL none 0 0,aR false,aL none 0 0,aL none 0 0,aA aD 0,aA aD 0,aA aD 0,aL none 0 0] 110 (0,0))) = .ok () (w.alloc (.cells cs.toArray 110 (0,0))):=
 lI (by rw[show cs.toArray.size=23 from a];kernel_rfl) (show 23=cs.toArray.size from a.symm) (by rw[<- Array.all_toList];exact List.all_eq_true.2 b)
theorem gU {w:World} {g:Nat} {T:TypeId} {cs:List Value} (h:ag w g T cs.toArray):∀ j u,cs[j]?=some u->w.cell? ((⟨g,0,none⟩:Addr).add j)=some u:=λ j u a=>by
 have e:(⟨g,0,none⟩:Addr).add j=⟨g,j,none⟩:=by unfold Addr.add;split <;> simp_all
 rw[e,h.cell j];simpa using a
theorem Ff (cs:List Value) (k:Int) (i:cs.length=23) (d:cs[0]?=some (aA aD k)) (w:World) :
  CS 109 #[.agg cs.toArray] w (aR (decide (k=4) || decide (k=5))):=by
 obtain⟨W,a⟩:=aH (w.alloc (.cells cs.toArray 110 (0,0)));have c:EG w W:=a▸aB w _;have j:W.cell? ⟨w.heap.size,0,none⟩=some (aA aD k):=by
  have B:ag W w.heap.size 110 cs.toArray:=a▸ag.new w _ _;rw[B.cell 0];simpa using d
 clear d;by_cases h4:k=4
 .subst h4;go_enter Tryz.func109,Tryz.ntmps109;go_upto_region 1 with (fail);rw[<- a];clear a;go_wp2;go_ret;exact⟨rfl,c⟩
 .have f:(k == 4)=false:=by simp[h4]
  obtain⟨b,h⟩:=af ((k == 5));have g:=qh (show (decide (k=4) || decide (k=5))=b by rw[decide_eq_false h4,<- h];by_cases h5:k=5 <;> simp[h5]);rw[g.o];clear h4;go_enter Tryz.func109,Tryz.ntmps109;go_upto_region 1 with (fail);rw[<- a];clear a;go_wp2;go_ret;exact⟨rfl,c⟩
theorem Nv {N:List ah} {K:aV} {keep:Nat->Bool} {k:Nat} (a:k<N.length):qi N K keep (k+1)=if (EZ N[k] && keep k)=true then qi N K keep k ++ [vg K N[k]] else qi N K keep k:=by
 unfold qi;rw[List.range_succ,List.filter_append,List.map_append,List.filter_cons,List.filter_nil];simp only[iY a];split
 .simp[iY a]
 .simp
theorem Fg {N:List ah} {K:aV} {keep:Nat->Bool} (k:Nat):(qi N K keep k).length<=k:=by
 unfold qi;rw[List.length_map];exact Nat.le_trans (List.length_filter_le _ _) (by simp)
theorem Nw:(Tryz.prog.info? 51).map (λ i=>(i.zero,i.size,i.bytes))=some (some (.agg #[.string ⟨#[]⟩,.int .i64 0,.slice none 0 0]),3,48):=by kernel_rfl
theorem Ux {w:World} {B0 gb m1 m2 m3:Nat} {x:ku} {f:aG} {N:List ah} {K:aV} (h:aJ w B0 gb m1 m2 m3 x f N K) (O:FuncId) (P:Array Value) (av:∀ (a:Array Value) (W:World),(callFunc O a).run Tryz.prog W = .ok (.enter O a) W) (keep:Nat->Bool)
  (U:∀ (i:Nat) (w':World),i<N.length->EG w w'->CS O (#[aA aD i] ++ P) w' (aR (keep i))) :
  Calls Tryz.prog 67 #[aM (some ⟨gb,0,none⟩),.func (.func O) #[] P] w λ e w'=>(∃ v,e = aX v/\DN 51 3 Dn w' w.heap.size v (qi N K keep N.length))/\EG w w':=by
 obtain⟨i0,ao,am,ap,an⟩:=info_parts Nw;have ar:=h.cap;have su:=h.nodes.1;have c5:w.cell? ⟨gb,5,none⟩=some (aL x.AN N.length x.cn):=h.blk.cell 5;have lg:=qh h;have aq:=qh U;obtain⟨AN,G8⟩:=af (x.AN);have SH:=qh G8;rw[G8] at c5;clear h U G8;go_enter Tryz.func67,Tryz.ntmps67;go_wp2;clear c5;go_loopw [13,5] (λ i v wr=>∃ k:Nat,i = aA aD k/\k<=N.length/\DN 51 3 Dn wr w.heap.size v (qi N K keep k)/\EG w wr) (λ i _ _=>302 - (intOf i).toNat)
 case atStart=>exact⟨0,rfl,Nat.zero_le _,DN.nil,Below.refl _ _⟩
 case round =>
  obtain⟨k,rfl,hk,t,hb⟩:=hrel;have t:=qh t;have hs:=hb.size;by_cases hlt:k<N.length
  .have G9:=qh (lg.o.keep hb);obtain⟨ad,A1,c1,A2,c2,A3,c3,A4,c4,A5,c5,B1,b1,B2,b2,B3,b3,A,c,hA,LM,hit,al,hc⟩:=G9.o.oW hlt;obtain rfl:AN=some ad:=SH.o.symm.trans hA;obtain⟨d,hd⟩:=af (N[k]);have n:=qh (Nv (K:=K) (keep:=keep) hlt);rw[hd] at hc n;obtain⟨cs,q⟩:∃ cs:List Value,[aA aD d.it.k,aE d.it.nm,aL A1 d.it.iff.length c1,aL A2 d.it.ph.length c2,aL A3 d.it.items.length c3,aR d.it.sh,aL A4 d.it.cnt.length c4,aE d.it.over,aA aD d.it.ans.k,aA aD d.it.ans.lo,aA aD d.it.ans.hi,aA aD d.it.ans.pl,aE d.it.ans.ls,aL B1 d.it.ans.only.length b1,aR d.it.ans.sh,aL B2 d.it.ans.rs.length b2,aR d.it.ans.need,aL B3 d.it.ans.ch.length b3,aL A5 d.it.cmp.length c5,aA aD d.par,aA aD d.kV,aA aD d.dJ,aL A d.lo.length c]=cs:=⟨_,rfl⟩;have S:cs.length=23:=by subst q;rfl
   have R:cs[0]?=some (aA aD d.it.k):=by subst q;rfl
   have yK:=yl (w:=wr) S (ad:=ad.add (k*23)) (λ j u hu=>hc j u (by subst q;exact hu));have Cc:=Dp (w:=wr) S (by subst q;simp[a3]);obtain⟨W,hW⟩:=aH (wr.alloc (.cells cs.toArray 110 (0,0)));have z:EG wr W:=hW▸aB wr _;have m:=hb.trans (z.mono hs);have ax:(qG 110 (aM (some ⟨wr.heap.size,0,none⟩))).run Tryz.prog W = .ok (.agg cs.toArray) W:=yl S (gU (hW▸ag.new wr _ _:ag W wr.heap.size 110 cs.toArray));have Q:=qh (Ff cs d.it.k S R W);have Y:=qh (show (decide (d.it.k=4) || decide (d.it.k=5))=EZ d from rfl);rw[Y.o] at Q;have HD:=qh hd;clear q S R hit al hc LM G9 hA hd;go_upto_region 5 with (fail);rw[<- hW];clear yK Cc hW;obtain⟨b1,H⟩:=af (EZ d);obtain⟨b2,F⟩:=af (keep k);have J:=qh (λ w' I=>aq.o k w' hlt I);rw[F] at J;rw[H] at Q;rw[H,F] at n;have M:=qh hlt;have Uy:=qh (λ w' I=>IP (lg.o.keep (w':=w') I) k hlt);rw[show N[k]=d from HD.o] at Uy;clear H F Y;cases b1
   .have C:=qh (n.o.trans (if_neg (by simp)));go_wp2_with (go_at_call 109;(with_reducible refine Q.o.mono ?_);rintro e1 w1 ⟨rfl,b⟩);go_roundw
    case rel=>exact⟨k+1,by go_num,M.o,by rw[C.o];exact t.o.keep ik (z.trans (b.mono z.size)),m.trans (b.mono m.size)⟩
    case measure =>
     have:=M.o;simp[intOf];omega
   .cases b2
    .have C:=qh (n.o.trans (if_neg (by simp)));go_wp2_with (first
      | (go_at_call 109;(with_reducible refine Q.o.mono ?_);rintro e1 w1 ⟨rfl,b⟩;have G:=m.trans (b.mono m.size))
      | (go_at_fn O;(with_reducible refine (J.o _ G).mono ?_);rintro e2 w2 ⟨rfl,p⟩))
     go_roundw
     case rel=>exact⟨k+1,by go_num,M.o,by rw[C.o];exact (t.o.keep ik (z.trans (b.mono z.size))).keep ik p,G.trans (p.mono G.size)⟩
     case measure =>
      have:=M.o;simp[intOf];omega
    .have C:=qh (n.o.trans (if_pos (by simp)));go_upto_region 6 with (first
      | (go_at_call 109;(with_reducible refine Q.o.mono ?_);rintro e1 w1 ⟨rfl,b⟩;have G:=m.trans (b.mono m.size))
      | (go_at_fn O;(with_reducible refine (J.o _ G).mono ?_);rintro e2 w2 ⟨rfl,p⟩))
     have l:=G.trans (p.mono G.size);have E:=(t.o.keep ik (z.trans (b.mono z.size))).keep ik p;have ak:=Fg (N:=N) (K:=K) (keep:=keep) k;obtain⟨L,hL⟩:=af (qi N K keep k);rw[hL] at E C ak;have Bh:=qh E;obtain⟨r,X⟩:=af (vg K d);rw[X] at Uy C;clear hL X E t;go_upto_region 7 with (first
      | (go_at_call 110;(with_reducible refine (Uy.o _ l).mono ?_);rintro e3 w3 ⟨⟨aw,rfl,A9,c9,rfl,XN⟩,aa⟩;have y:=l.trans (aa.mono l.size);obtain⟨xs,B,V⟩:=Bh.o.keep ik aa;have ab:=y.size;have Uz:=qh V;have T:=qh XN;have D8:=qh B;have OV:=B.alloc (.cells #[aE r.nm,aA aD r.kind,aL A9 r.loops.length c9] 51 (0,0));clear B V XN)
      | (at_builtin;refine wpList_append_own _ rfl _ _ 40 rfl w.heap.size 51 i0 (.agg #[.string ⟨#[]⟩,.int .i64 0,.slice none 0 0]) 3 48 Tryz.underlying40 ao am ap an rfl (by decide) _ _ _ rfl OV ⟨w3.heap.size,0,none⟩ 1 1 [.string r.nm,.int .i64 r.kind,.slice A9 r.loops.length c9] rfl rfl (by intro j u s;match j,s with | 0,s=>(cases s;simp[go_sem]) | 1,s=>(cases s;simp[go_sem]) | 2,s=>(cases s;simp[go_sem]) | j+3,s=>simp at s) (by simp[a3]) (by unfold maxLen;omega) (by omega) (by first | omega | (simp;omega)) ?_;intro v4 w4 o D _))
     have DR:=aB w3 (.cells #[aE r.nm,aA aD r.kind,aL A9 r.loops.length c9] 51 (0,0));have Z:=DN.snoc ik (d:=r) OV (λ i hi=>ik.later (Uz.o i hi) DR) (ik.later ⟨A9,c9,rfl,own_base T.o.1 l.size,T.o.2⟩ DR) rfl o D;have ac:EG w w4:=(y.trans (DR.mono ab)).grown D (by simp;omega) (λ g hg=>(OV.lt g hg).1);have G7:=qh Z;clear Z OV o D;go_wp2;go_roundw
     case rel=>exact⟨k+1,by go_num,M.o,by rw[C.o];exact G7.o,ac⟩
     case measure =>
      have:=M.o;simp[intOf];omega
  .have e:k=N.length:=by omega
   subst e;have t:=qh t.o;go_wp2;go_ret;exact⟨⟨_,rfl,t.o⟩,hb⟩
set_option maxHeartbeats 4000000
set_option maxRecDepth 100000
theorem Ny {N:List ah} {k:Nat} (a:k<N.length):kF (N.take (k+1))=if N[k].it.k=3 then kF (N.take k) ++ [⟨N[k].it.nm,N[k].lo⟩] else kF (N.take k):=by
 unfold kF;rw[List.take_succ_eq_append_getElem a,List.filter_append,List.map_append,List.filter_cons,List.filter_nil];by_cases h:N[k].it.k=3
 .rw[if_pos h,if_pos (by simpa using h)];rfl
 .rw[if_neg h,if_neg (by simpa using h)];simp
theorem Fj {N:List ah} (k:Nat):(kF (N.take k)).length<=k:=by
 unfold kF;rw[List.length_map];exact Nat.le_trans (List.length_filter_le _ _) (by rw[List.length_take];omega)
theorem XO:(Tryz.prog.info? 184).map (λ i=>(i.zero,i.size,i.bytes))=some (some (.agg #[.string ⟨#[]⟩,.slice none 0 0]),2,40):=by kernel_rfl
theorem UA {w:World} {B0 gb m1 m2 m3:Nat} {x:ku} {f:aG} {N:List ah} {K:aV} (h:aJ w B0 gb m1 m2 m3 x f N K) :
  Calls Tryz.prog 69 #[aM (some ⟨gb,0,none⟩)] w λ e w'=>(∃ v,e = aX v/\DN 184 2 Fe w' w.heap.size v (kF N))/\EG w w':=by
 obtain⟨i0,am,ak,an,al⟩:=info_parts XO;have ap:=h.cap;have su:=h.nodes.1;have X:w.cell? ⟨gb,5,none⟩=some (aL x.AN N.length x.cn):=h.blk.cell 5;have lg:=qh h;obtain⟨AN,G8⟩:=af (x.AN);have SH:=qh G8;rw[G8] at X;clear h G8;go_enter Tryz.func69,Tryz.ntmps69;go_wp2;clear X;go_loopw [11,3] (λ i v wr=>∃ k:Nat,i = aA aD k/\k<=N.length/\DN 184 2 Fe wr w.heap.size v (kF (N.take k))/\EG w wr) (λ i _ _=>302 - (intOf i).toNat)
 case atStart=>exact⟨0,rfl,Nat.zero_le _,by rw[List.take_zero];exact DN.nil,Below.refl _ _⟩
 case round =>
  obtain⟨k,rfl,hk,q,Y⟩:=hrel;have q:=qh q;have hs:=Y.size;by_cases hlt:k<N.length
  .have G9:=qh (lg.o.keep Y);obtain⟨ad,A1,c1,A2,c2,A3,c3,A4,c4,A5,X,B1,b1,B2,b2,B3,b3,A,c,hA,LM,hit,B,hc⟩:=G9.o.oW hlt;obtain rfl:AN=some ad:=SH.o.symm.trans hA;obtain⟨d,hd⟩:=af (N[k]);have t:=qh (Ny hlt);rw[hd] at hc t B hit;have E:d.it.nm.size<=maxLen:=by cases hit;assumption
   obtain⟨cs,b⟩:∃ cs:List Value,[aA aD d.it.k,aE d.it.nm,aL A1 d.it.iff.length c1,aL A2 d.it.ph.length c2,aL A3 d.it.items.length c3,aR d.it.sh,aL A4 d.it.cnt.length c4,aE d.it.over,aA aD d.it.ans.k,aA aD d.it.ans.lo,aA aD d.it.ans.hi,aA aD d.it.ans.pl,aE d.it.ans.ls,aL B1 d.it.ans.only.length b1,aR d.it.ans.sh,aL B2 d.it.ans.rs.length b2,aR d.it.ans.need,aL B3 d.it.ans.ch.length b3,aL A5 d.it.cmp.length X,aA aD d.par,aA aD d.kV,aA aD d.dJ,aL A d.lo.length c]=cs:=⟨_,rfl⟩;have oZ:cs.length=23:=by subst b;rfl
   have yK:=yl (w:=wr) oZ (ad:=ad.add (k*23)) (λ j u hu=>hc j u (by subst b;exact hu));have Cc:=Dp (w:=wr) oZ (by subst b;simp[a3]);obtain⟨W,U⟩:=aH (wr.alloc (.cells cs.toArray 110 (0,0)));have D:EG wr W:=U▸aB wr _;have m:=Y.trans (D.mono hs);have F:ag W wr.heap.size 110 cs.toArray:=U▸ag.new wr _ _;have q0:W.cell? ⟨wr.heap.size,0,none⟩=some (aA aD d.it.k):=by rw[F.cell 0];subst b;rfl
   have q1:W.cell? ⟨wr.heap.size,1,none⟩=some (aE d.it.nm):=by rw[F.cell 1];subst b;rfl
   have O:W.cell? ⟨wr.heap.size,22,none⟩=some (aL A d.lo.length c):=by rw[F.cell 22];subst b;rfl
   have HQ:=qh (show cs.toArray[1]?=some (aE d.it.nm)/\cs.toArray[22]?=some (aL A d.lo.length c) by subst b;exact⟨rfl,rfl⟩);have T:=qh hlt;have I:=qh (aZ B E);have V:=qh F;clear b oZ hit B hc LM G9 hA hd E;clear F;go_upto_region 5 with (fail);rw[<- U];clear yK Cc U;by_cases h3:d.it.k=3
   .have ab:(d.it.k == 3)=true:=by simp[h3]
    have S:=qh (t.o.trans (if_pos h3));have ac:=Fj (N:=N) k;obtain⟨L,hL⟩:=af (kF (N.take k));rw[hL] at S ac q;have Bh:=qh (q.o.keep nR D);clear h3 hL q;go_upto_region 6 with (fail);have z:=Below.refl W.heap.size W;have ae:=m.size;obtain⟨xs,o,M⟩:=Bh.o;have HX:=qh (aZ o M);have K1:=qh (show ∀ w',EG W w'->Calls Tryz.prog 38 #[aL A d.lo.length c] w' λ e G=>∃ v,e = aX v/\G.ownsRow W.heap.size 9 1 v d.lo.length (iZ d.lo)/\EG W G from λ w' l =>
     (cloneS d.lo A c wr.heap.size w' (I.o.1.1.1.below ((D.trans (l.mono D.size)))) (by have:=I.o.1.2;omega)).mono λ _ _ ⟨v,he,ho,hk⟩=>⟨v,he,own_base ho l.size,l.trans (hk.mono l.size)⟩)
    have Z:=qh (show ∀ w',EG W w'->w'.cell? ⟨wr.heap.size,1,none⟩=some (aE d.it.nm)/\w'.cell? ⟨wr.heap.size,22,none⟩=some (aL A d.lo.length c)/\EG w w' from λ w' l=>⟨Below.cell_of l q1,Below.cell_of l O,m.trans (l.mono m.size)⟩);clear q0 q1 O o M;go_region_held3 (λ w'=>w'.cell? ⟨wr.heap.size,1,none⟩=some (aE d.it.nm)/\w'.cell? ⟨wr.heap.size,22,none⟩=some (aL A d.lo.length c)/\EG w w')
     (first | exact Z.o _ z | exact Z.o _ z.drew | exact Z.o _ a | exact Z.o _ (a.alloc a.size _) | exact R)
     (first
      | (go_at_call 38;(with_reducible refine (K1.o _ z.drew).mono ?_);rintro e1 w1 ⟨v,rfl,C,a⟩;obtain⟨H,J,rfl⟩:=jT C;have o:=dm HX.o.1 a;have P:=o.alloc (.cells #[aE d.it.nm,aL H d.lo.length J] 184 (0,0)))
      | (refine step_append_lies _ rfl _ _ 41 rfl w.heap.size 184 i0 (.agg #[.string ⟨#[]⟩,.slice none 0 0]) 2 40 Tryz.underlying41 am ak an al rfl (by decide) _ L.length xs rfl P ⟨w1.heap.size,0,none⟩ 1 1 [.string d.it.nm,.slice H d.lo.length J] rfl rfl (by intro j u r;match j,r with | 0,r=>(cases r;simp[go_sem]) | 1,r=>(cases r;simp[go_sem]) | j+2,r=>simp at r) (by simp[a3]) (by decide) (by unfold maxLen;omega) (by omega) (by have:=a.size;simp;omega) _ rfl ?_;intro g4 ao w4 n p _ _;have y:=((V.o.below a V.o.lt).alloc (.cells #[.string d.it.nm,.slice H d.lo.length J] 184 (0,0))).grown p (λ e=>jw P ((V.o.below a V.o.lt).alloc _) (by decide) e.symm);have R:w4.cell? ⟨wr.heap.size,1,none⟩=some (.string d.it.nm)/\w4.cell? ⟨wr.heap.size,22,none⟩=some (.slice A d.lo.length c)/\EG w w4:=⟨(y.cell 1).trans HQ.o.1,(y.cell 22).trans HQ.o.2,((m.trans (a.mono m.size)).alloc (by have:=a.size;omega) _).grown p (by have:=a.size;simp;omega) (λ g hg=>(P.lt g hg).1)⟩))
    all_goals
     have DR:=aB w1 (.cells #[aE d.it.nm,aL H d.lo.length J] 184 (0,0));have Q:=DN.snoc nR (d:=(⟨d.it.nm,d.lo⟩:bP)) P (λ i hi=>nR.later (nR.later (HX.o.2 i hi) a) DR) (nR.later ⟨H,J,rfl,own_base C ae,I.o.2,by have:=I.o.1.2;show d.lo.length<=maxLen;unfold maxLen;omega,λ s hs=>I.o.1.1.2.2.2 s hs⟩ DR) rfl n p;have G7:=qh Q;have aa:=R.2.2;clear Q P n p y;go_wp2;go_roundw
     case rel=>exact⟨k+1,by go_num,T.o,by rw[S.o];exact G7.o,aa⟩
     case measure =>
      have:=T.o;simp[intOf];omega
   .have ab:(d.it.k == 3)=false:=by simp[h3]
    have S:=qh (t.o.trans (if_neg h3));clear h3;go_wp2;go_roundw
    case rel=>exact⟨k+1,by go_num,T.o,by rw[S.o];exact q.o.keep nR D,m⟩
    case measure =>
     have:=T.o;simp[intOf];omega
  .have e:k=N.length:=by omega
   subst e;rw[List.take_length] at q;go_wp2;go_ret;exact⟨⟨_,rfl,q.o⟩,Y⟩
set_option maxHeartbeats 4000000
set_option maxRecDepth 100000
theorem jf {a c:Int} (h:a=c):(a == c)=true/\(a != c)=false:=by simp[h]
theorem gp {a c:Int} (h:¬ a=c):(a == c)=false/\(a != c)=true:=by simp[h]
theorem ajL {n:Nat} (h:n=0):((n:Int) == 0)=true/\((n:Int) != 0)=false:=by simp[h]
theorem ajM {n:Nat} (h:¬ n=0):((n:Int) == 0)=false/\((n:Int) != 0)=true:=by simp[h]
theorem ajN {n:Nat} (h:n=1):((n:Int) == 1)=true/\((n:Int) != 1)=false:=by simp[h]
theorem ajO {n:Nat} (h:¬ n=1):((n:Int) == 1)=false/\((n:Int) != 1)=true:=⟨beq_eq_false_iff_ne.2 (by omega),bne_iff_ne.2 (by omega)⟩
theorem ajP {n:Nat} (h:0<n):0<n/\0<(n:Int)/\decide (0<(n:Int))=true:=⟨h,by omega,decide_eq_true (by omega)⟩
theorem ajQ {n:Nat} (h:¬ 0<n):¬ 0<n/\¬ 0<(n:Int)/\decide (0<(n:Int))=false:=⟨h,by omega,decide_eq_false (by omega)⟩
theorem ajR {n:Nat} (h:1<n):1<n/\1<(n:Int)/\decide (1<(n:Int))=true:=⟨h,by omega,decide_eq_true (by omega)⟩
theorem ajS {n:Nat} (h:¬ 1<n):¬ 1<n/\¬ 1<(n:Int)/\decide (1<(n:Int))=false:=⟨h,by omega,decide_eq_false (by omega)⟩
theorem Fp {s:ByteArray}:s.toList = [] ↔ s=⟨#[]⟩:=by
 rw[ByteArray.toList_eq];exact⟨λ h=>ByteArray.ext (Array.toList_eq_nil_iff.1 h),λ h=>by rw[h]⟩
theorem agu {s:ByteArray}:s.toList.isEmpty=decide (s=⟨#[]⟩):=by
 rw[Bool.eq_iff_iff,List.isEmpty_iff,Fp,decide_eq_true_iff]
theorem agv {s:ByteArray} (h:s=⟨#[]⟩):s.toList.isEmpty=true/\s.toList = []:=⟨by rw[agu];simp[h],Fp.2 h⟩
theorem agw {s:ByteArray} (h:¬ s=⟨#[]⟩):s.toList.isEmpty=false/\¬ s.toList = []:=⟨by rw[agu];simp[h],λ e=>h (Fp.1 e)⟩
theorem xR (a c:Int):(a=c/\(a == c)=true/\(a != c)=false)\/(¬ a=c/\(a == c)=false/\(a != c)=true):=(a4 (a=c)).elim (λ h=>.inl ⟨h,jf h⟩) (λ h=>.inr ⟨h,gp h⟩)
theorem XP (n:Nat):(n=0/\((n:Int) == 0)=true/\((n:Int) != 0)=false)\/(¬ n=0/\((n:Int) == 0)=false/\((n:Int) != 0)=true):=(a4 (n=0)).elim (λ h=>.inl ⟨h,ajL h⟩) (λ h=>.inr ⟨h,ajM h⟩)
theorem Hz (s:ByteArray):(s=⟨#[]⟩/\s.toList.isEmpty=true/\s.toList = [])\/(¬ s=⟨#[]⟩/\s.toList.isEmpty=false/\¬ s.toList = []):=(a4 (s=⟨#[]⟩)).elim (λ h=>.inl ⟨h,agv h⟩) (λ h=>.inr ⟨h,agw h⟩)
theorem UB {w:World} {a:jS} {B1:Option Addr} {b1:Nat} {B2:Option Addr} {b2:Nat} {B3:Option Addr} {b3:Nat} :
  CS 170 #[.agg (Bd a B1 b1 B2 b2 B3 b3)] w (aR (Dk a)):=by
 obtain⟨W,g⟩:=aH (w.alloc (.cells (Bd a B1 b1 B2 b2 B3 b3) 57 (0,0)));have z:EG w W:=g▸aB w _;have b:ag W w.heap.size 57 (Bd a B1 b1 B2 b2 B3 b3):=g▸ag.new w _ _;have T:W.cell? ⟨w.heap.size,0,none⟩=some (aA aD a.k):=b.cell 0;have Z:W.cell? ⟨w.heap.size,1,none⟩=some (aA aD a.lo):=b.cell 1;have S:W.cell? ⟨w.heap.size,2,none⟩=some (aA aD a.hi):=b.cell 2;have Y:W.cell? ⟨w.heap.size,3,none⟩=some (aA aD a.pl):=b.cell 3;have X:W.cell? ⟨w.heap.size,4,none⟩=some (aE a.ls):=b.cell 4;have q5:W.cell? ⟨w.heap.size,5,none⟩=some (aL B1 a.only.length b1):=b.cell 5;have Q:W.cell? ⟨w.heap.size,6,none⟩=some (aR a.sh):=b.cell 6;have V:W.cell? ⟨w.heap.size,7,none⟩=some (aL B2 a.rs.length b2):=b.cell 7;have R:W.cell? ⟨w.heap.size,8,none⟩=some (aR a.need):=b.cell 8;have U:W.cell? ⟨w.heap.size,9,none⟩=some (aL B3 a.ch.length b3):=b.cell 9;clear b;go_enter Tryz.func170,Tryz.ntmps170;go_upto_region 1 with (fail);rw[<- g];clear g;obtain⟨s,d⟩:=af (a.sh);have u:=qh d;rw[d] at Q;clear d;obtain⟨l,c⟩:=af (a.need);have m:=qh c;rw[c] at R;clear c;generalize O:a.only.length=n5 at *;have n:=qh O;clear O;generalize f:a.rs.length=n7 at *;have y:=qh f;clear f;generalize P:a.ch.length=n9 at *;have C:=qh P;clear P;rcases xR a.k 0 with ⟨H,t,K⟩ | ⟨H,t,K⟩;rcases xR a.lo 0 with ⟨v,r,A⟩ | ⟨v,r,A⟩;rcases xR a.hi 0 with ⟨J,B,p⟩ | ⟨J,B,p⟩;rcases xR a.pl 0 with ⟨x,k,D⟩ | ⟨x,k,D⟩;rcases Hz a.ls with ⟨G,N,i⟩ | ⟨G,N,i⟩;rcases XP n5 with ⟨E,h,j⟩ | ⟨E,h,j⟩;cases s;rcases XP n7 with ⟨I,q,F⟩ | ⟨I,q,F⟩;cases l;rcases XP n9 with ⟨L,o,M⟩ | ⟨L,o,M⟩;rotate_left;rotate_left;rotate_left;rotate_left;rotate_left;rotate_left;rotate_left;rotate_left;rotate_left;rotate_left;rotate_left
 all_goals
  first
   | (exfalso;omega)
   | (go_wp2;go_ret;refine⟨aj ?_,z⟩;unfold Dk;simp[u.o,m.o,n.o,y.o,C.o, *] <;> omega)
theorem Nz (k:Int) (w:World):He 171 #[aA aD k] w (.tuple #[aA aD (Hu k).1,aA aD (Hu k).2]):=by
 by_cases h2:k=2
 .subst h2;go_enter Tryz.func171,Tryz.ntmps171;go_wp2;go_ret2;exact⟨rfl,rfl⟩
 have c:(k == 2)=false:=by simp[h2]
 by_cases h6:k=6
 .subst h6;go_enter Tryz.func171,Tryz.ntmps171;go_wp2;go_ret2;exact⟨rfl,rfl⟩
 have d:(k == 6)=false:=by simp[h6]
 by_cases h3:k=3
 .subst h3;go_enter Tryz.func171,Tryz.ntmps171;go_wp2;go_ret2;exact⟨rfl,rfl⟩
 have b:(k == 3)=false:=by simp[h3]
 by_cases h5:k=5
 .subst h5;go_enter Tryz.func171,Tryz.ntmps171;go_wp2;go_ret2;exact⟨rfl,rfl⟩
 have f:(k == 5)=false:=by simp[h5]
 have a:=qh (show Hu k=(0,0) by unfold Hu;rw[if_neg h2,if_neg h6,if_neg h3,if_neg h5]);clear h2 h6 h3 h5;go_enter Tryz.func171,Tryz.ntmps171;go_wp2;go_ret2;rw[a.o];exact⟨rfl,rfl⟩
theorem UC {w:World} {a:jS} {B1:Option Addr} {b1:Nat} {B2:Option Addr} {b2:Nat} {B3:Option Addr} {b3:Nat} :
  CS 172 #[.agg (Bd a B1 b1 B2 b2 B3 b3)] w (aR (SA a)):=by
 obtain⟨W,y⟩:=aH (w.alloc (.cells (Bd a B1 b1 B2 b2 B3 b3) 57 (0,0)));have D:EG w W:=y▸aB w _;have g:ag W w.heap.size 57 (Bd a B1 b1 B2 b2 B3 b3):=y▸ag.new w _ _;have L:W.cell? ⟨w.heap.size,0,none⟩=some (aA aD a.k):=g.cell 0;have Q:W.cell? ⟨w.heap.size,1,none⟩=some (aA aD a.lo):=g.cell 1;have K:W.cell? ⟨w.heap.size,2,none⟩=some (aA aD a.hi):=g.cell 2;have P:W.cell? ⟨w.heap.size,3,none⟩=some (aA aD a.pl):=g.cell 3;have O:W.cell? ⟨w.heap.size,4,none⟩=some (aE a.ls):=g.cell 4;have R:W.cell? ⟨w.heap.size,5,none⟩=some (aL B1 a.only.length b1):=g.cell 5;have J:W.cell? ⟨w.heap.size,6,none⟩=some (aR a.sh):=g.cell 6;have N:W.cell? ⟨w.heap.size,7,none⟩=some (aL B2 a.rs.length b2):=g.cell 7;have S:W.cell? ⟨w.heap.size,8,none⟩=some (aR a.need):=g.cell 8;have M:W.cell? ⟨w.heap.size,9,none⟩=some (aL B3 a.ch.length b3):=g.cell 9;clear g;go_enter Tryz.func172,Tryz.ntmps172;go_upto_region 1 with (fail);rw[<- y];clear y;obtain⟨x,t⟩:=af (a.sh);have C:=qh t;rw[t] at J;clear t;generalize I:a.only.length=n5 at *;have A:=qh I;clear I;rcases xR a.k 4 with ⟨E,B,z⟩ | ⟨E,B,z⟩;rcases xR a.pl 0 with ⟨d,b,f⟩ | ⟨d,b,f⟩;rcases xR a.lo 0 with ⟨o,n,p⟩ | ⟨o,n,p⟩;rcases xR a.hi 0 with ⟨u,q,m⟩ | ⟨u,q,m⟩;rotate_left;rotate_left;rotate_left;rcases xR a.k 2 with ⟨h,i,c⟩ | ⟨h,i,c⟩;rcases xR a.lo 0 with ⟨o,n,p⟩ | ⟨o,n,p⟩;rcases xR a.hi 0 with ⟨u,q,m⟩ | ⟨u,q,m⟩;rotate_left;rotate_left;rotate_left;rotate_left;rcases xR a.k 5 with ⟨F,H,G⟩ | ⟨F,H,G⟩;rcases xR a.pl 0 with ⟨d,b,f⟩ | ⟨d,b,f⟩;rotate_left;rcases xR a.k 2 with ⟨h,i,c⟩ | ⟨h,i,c⟩;rotate_left;rotate_left;rcases xR a.pl 0 with ⟨d,b,f⟩ | ⟨d,b,f⟩;rcases Hz a.ls with ⟨s,v,k⟩ | ⟨s,v,k⟩;rcases XP n5 with ⟨r,j,l⟩ | ⟨r,j,l⟩;cases x;rotate_left;rotate_left;rotate_left;rotate_left;rcases xR a.k 2 with ⟨h,i,c⟩ | ⟨h,i,c⟩;rcases Hz a.ls with ⟨s,v,k⟩ | ⟨s,v,k⟩;rcases XP n5 with ⟨r,j,l⟩ | ⟨r,j,l⟩;cases x;rotate_left;rotate_left;rotate_left;rotate_left;rotate_left
 all_goals
  first
   | (exfalso;omega)
   | (go_wp2;go_ret;refine⟨aj ?_,D⟩;unfold SA;simp[C.o,A.o, *] <;> omega)
set_option maxHeartbeats 4000000
set_option maxRecDepth 100000
theorem vK (n:Nat):(¬ 0<n/\¬ 0<(n:Int)/\decide (0<(n:Int))=false)\/(0<n/\0<(n:Int)/\decide (0<(n:Int))=true):=(Nat.lt_or_ge 0 n).elim (λ h=>.inr (ajP h)) (λ h=>.inl (ajQ (by omega)))
theorem Ql (n:Nat):(¬ 1<n/\¬ 1<(n:Int)/\decide (1<(n:Int))=false)\/(1<n/\1<(n:Int)/\decide (1<(n:Int))=true):=(Nat.lt_or_ge 1 n).elim (λ h=>.inr (ajR h)) (λ h=>.inl (ajS (by omega)))
theorem ajV (n:Nat):(n=1/\((n:Int) == 1)=true/\((n:Int) != 1)=false)\/(¬ n=1/\((n:Int) == 1)=false/\((n:Int) != 1)=true):=(a4 (n=1)).elim (λ h=>.inl ⟨h,ajN h⟩) (λ h=>.inr ⟨h,ajO h⟩)
theorem uo {w:World} {ad:Addr} {cs:List Value} (a:cs.length=10) (b:∀ j u,cs[j]?=some u->w.cell? (ad.add j)=some u):(qG 57 (aM (some ad))).run Tryz.prog w = .ok (.agg cs.toArray) w:=
 gu Tryz.underlying57 rfl (by rw[a];kernel_rfl) b
theorem zN {w:World} {g k:Nat} {T:TypeId} {c:Array Value} (h:ag w g T c) {cs:List Value} (a:∀ j u,cs[j]?=some u->c[k+j]?=some u):∀ j u,cs[j]?=some u->w.cell? ((⟨g,k,none⟩:Addr).add j)=some u:=by
 intro j u b;rw[show (⟨g,k,none⟩:Addr).add j=⟨g,k+j,none⟩ by cases j <;> rfl,h.cell];exact a j u b
theorem UD {w:World} {B:Nat} {x:ItemD} {A1:Option Addr} {P:Nat} {R:Option Addr} {V:Nat} {A3:Option Addr} {U:Nat} {S:Option Addr} {Q:Nat} {A5:Option Addr} {Y:Nat} {B1:Option Addr} {b1:Nat} {B2:Option Addr} {b2:Nat} {B3:Option Addr} {b3:Nat} (hx:bW w B x [aA aD x.k,aE x.nm,aL A1 x.iff.length P,aL R x.ph.length V,aL A3 x.items.length U,aR x.sh,aL S x.cnt.length Q,aE x.over,aA aD x.ans.k,aA aD x.ans.lo,aA aD x.ans.hi,aA aD x.ans.pl,aE x.ans.ls,aL B1 x.ans.only.length b1,aR x.ans.sh,aL B2 x.ans.rs.length b2,aR x.ans.need,aL B3 x.ans.ch.length b3,aL A5 x.cmp.length Y]) (hk:1<=x.k/\x.k<=6) :
  CS 115 #[.agg (Bg x A1 P R V A3 U S Q B1 b1 B2 b2 B3 b3 A5 Y)] w (aR (vZ x)):=by
 obtain⟨l2,l6,am,l4,l3⟩:x.iff.length<=maxLen/\x.cnt.length<=maxLen/\x.cmp.length<=maxLen/\x.items.length<=maxLen/\x.ph.length<=maxLen:=by
  cases hx with
  | mk h1 h2 h4 h5 ha l1 l3 l4 l5 l6 l7 l8 hr hi=>exact⟨h1.1,h4.1,h5.1,l8,h2.2.2.1⟩
 obtain⟨W,hW⟩:=aH (w.alloc (.cells (Bg x A1 P R V A3 U S Q B1 b1 B2 b2 B3 b3 A5 Y) 59 (0,0)));have p:EG w W:=hW▸aB w _;have a:ag W w.heap.size 59 (Bg x A1 P R V A3 U S Q B1 b1 B2 b2 B3 b3 A5 Y):=hW▸ag.new w _ _;have HZ:=qh (show ∀ w',EG w w'->Calls Tryz.prog 170 #[.agg (Bd x.ans B1 b1 B2 b2 B3 b3)] w' λ e ak=>e = aX (aR (Dk x.ans))/\EG w' ak from λ w' _=>UB);have q0:W.cell? ⟨w.heap.size,0,none⟩=some (aA aD x.k):=a.cell 0;have q1:W.cell? ⟨w.heap.size,1,none⟩=some (aE x.nm):=a.cell 1;have q2:W.cell? ⟨w.heap.size,2,none⟩=some (aL A1 x.iff.length P):=a.cell 2;have q3:W.cell? ⟨w.heap.size,3,none⟩=some (aL R x.ph.length V):=a.cell 3;have q4:W.cell? ⟨w.heap.size,4,none⟩=some (aL A3 x.items.length U):=a.cell 4;have q5:W.cell? ⟨w.heap.size,5,none⟩=some (aR x.sh):=a.cell 5;have q6:W.cell? ⟨w.heap.size,6,none⟩=some (aL S x.cnt.length Q):=a.cell 6;have q7:W.cell? ⟨w.heap.size,7,none⟩=some (aE x.over):=a.cell 7;have q8:W.cell? ⟨w.heap.size,8,none⟩=some (aA aD x.ans.k):=a.cell 8;have q9:W.cell? ⟨w.heap.size,9,none⟩=some (aA aD x.ans.lo):=a.cell 9;have aw:W.cell? ⟨w.heap.size,10,none⟩=some (aA aD x.ans.hi):=a.cell 10;have an:W.cell? ⟨w.heap.size,11,none⟩=some (aA aD x.ans.pl):=a.cell 11;have ar:W.cell? ⟨w.heap.size,12,none⟩=some (aE x.ans.ls):=a.cell 12;have av:W.cell? ⟨w.heap.size,13,none⟩=some (aL B1 x.ans.only.length b1):=a.cell 13;have ay:W.cell? ⟨w.heap.size,14,none⟩=some (aR x.ans.sh):=a.cell 14;have aq:W.cell? ⟨w.heap.size,15,none⟩=some (aL B2 x.ans.rs.length b2):=a.cell 15;have ao:W.cell? ⟨w.heap.size,16,none⟩=some (aR x.ans.need):=a.cell 16;have ap:W.cell? ⟨w.heap.size,17,none⟩=some (aL B3 x.ans.ch.length b3):=a.cell 17;have T:W.cell? ⟨w.heap.size,18,none⟩=some (aL A5 x.cmp.length Y):=a.cell 18;have NC:(qG 57 (aM (some ⟨w.heap.size,8,none⟩))).run Tryz.prog W = .ok (.agg [aA aD x.ans.k,aA aD x.ans.lo,aA aD x.ans.hi,aA aD x.ans.pl,aE x.ans.ls,aL B1 x.ans.only.length b1,aR x.ans.sh,aL B2 x.ans.rs.length b2,aR x.ans.need,aL B3 x.ans.ch.length b3].toArray) W:=
  uo rfl (zN a (by intro j u c;match j,c with | 0,c | 1,c | 2,c | 3,c | 4,c | 5,c | 6,c | 7,c | 8,c | 9,c=>(exact c) | j+10,c=>simp at c))
 clear a hx;go_enter Tryz.func115,Tryz.ntmps115;go_upto_region 1 with (fail);rw[<- hW];clear hW;obtain⟨M,N⟩:=af (x.iff.length);have O:=qh N;rw[N] at q2 l2;clear N;obtain⟨n3,J⟩:=af (x.ph.length);have aa:=qh J;rw[J] at q3 l3;clear J;obtain⟨n4,L⟩:=af (x.items.length);have ab:=qh L;rw[L] at q4 l4;clear L;obtain⟨G,I⟩:=af (x.cnt.length);have X:=qh I;rw[I] at q6 l6;clear I;obtain⟨b,K⟩:=af (x.cmp.length);have Z:=qh K;rw[K] at T am;clear K;obtain⟨k,H⟩:=af (x.k);have HK:=qh H;rw[H] at q0 hk;clear H;obtain⟨z,hz⟩:=af (Dk x.ans);rw[hz] at HZ;obtain⟨s,hs⟩:=af (x.sh);have ad:=qh (aZ hz hs);have ae:=qh (show decide (1<G)=decide (1<(G:Int)) from decide_eq_decide.2 (by omega));rw[hs] at q5;clear hz hs;have HA:=qh (aZ HK.o (aZ O.o (aZ aa.o (aZ ab.o (aZ X.o Z.o)))));clear HK O aa ab X Z;rcases (by omega:k=1\/k=2\/k=3\/k=4\/k=5\/k=6) with rfl | rfl | rfl | rfl | rfl | rfl;cases s;rcases vK G with ⟨C,D,t⟩ | ⟨C,D,t⟩;rcases Hz x.over with ⟨h,g,l⟩ | ⟨h,g,l⟩;cases z;rotate_left;rcases vK b with ⟨q,y,E⟩ | ⟨q,y,E⟩;rcases Ql M with ⟨i,d,f⟩ | ⟨i,d,f⟩;rotate_left 6;rcases vK n3 with ⟨m,n,o⟩ | ⟨m,n,o⟩;rcases vK G with ⟨C,D,t⟩ | ⟨C,D,t⟩;rcases Hz x.over with ⟨h,g,l⟩ | ⟨h,g,l⟩;cases z;rotate_left;rcases vK b with ⟨q,y,E⟩ | ⟨q,y,E⟩;rcases Ql M with ⟨i,d,f⟩ | ⟨i,d,f⟩;rotate_left 6;rcases vK n3 with ⟨m,n,o⟩ | ⟨m,n,o⟩;cases s;rcases vK G with ⟨C,D,t⟩ | ⟨C,D,t⟩;rcases Hz x.over with ⟨h,g,l⟩ | ⟨h,g,l⟩;rotate_left;cases z;rotate_left;rcases vK b with ⟨q,y,E⟩ | ⟨q,y,E⟩;rcases Ql M with ⟨i,d,f⟩ | ⟨i,d,f⟩;rotate_left 3;rcases Hz x.over with ⟨h,g,l⟩ | ⟨h,g,l⟩;cases z;rotate_left;rcases vK b with ⟨q,y,E⟩ | ⟨q,y,E⟩;rcases Ql M with ⟨i,d,f⟩ | ⟨i,d,f⟩;rotate_left 6;rcases vK n4 with ⟨v,A,r⟩ | ⟨v,A,r⟩;cases s;rcases vK G with ⟨C,D,t⟩ | ⟨C,D,t⟩;rcases Hz x.over with ⟨h,g,l⟩ | ⟨h,g,l⟩;rcases vK b with ⟨q,y,E⟩ | ⟨q,y,E⟩;rcases Ql M with ⟨i,d,f⟩ | ⟨i,d,f⟩;rotate_left 7;rcases vK n3 with ⟨m,n,o⟩ | ⟨m,n,o⟩;rcases vK n4 with ⟨v,A,r⟩ | ⟨v,A,r⟩;cases s;rcases vK G with ⟨C,D,t⟩ | ⟨C,D,t⟩;rcases Hz x.over with ⟨h,g,l⟩ | ⟨h,g,l⟩;cases z;rotate_left;rcases ajV b with ⟨al,ac,eQ⟩ | ⟨al,ac,eQ⟩;rcases Ql M with ⟨i,d,f⟩ | ⟨i,d,f⟩;rotate_left 8;rcases vK n4 with ⟨v,A,r⟩ | ⟨v,A,r⟩;cases s;rcases vK G with ⟨C,D,t⟩ | ⟨C,D,t⟩;rcases Hz x.over with ⟨h,g,l⟩ | ⟨h,g,l⟩;cases z;rotate_left;rcases vK b with ⟨q,y,E⟩ | ⟨q,y,E⟩;rcases Ql M with ⟨i,d,f⟩ | ⟨i,d,f⟩;rotate_left 7
 all_goals
  go_wp2_with (go_at_call 170;(with_reducible refine (HZ.o _ (by first | exact p | exact p.drew)).mono ?_);rintro e1 w1 ⟨rfl,F⟩;have ax:=Below.cell_of F T;have r2:=Below.cell_of F q2;have r6:=Below.cell_of F q6);go_ret;refine⟨aj ?_,by first | exact p | exact p.trans (F.mono p.size)⟩;unfold vZ;simp[HA.o,ad.o,ae.o, *]
end Go.Proofs.YtcnagconagpkcaaGreatDoor
