/- Lemmas. -/
import Derived.Test.YtcnagconagpkcaaGreatDoorZ8
import Derived.Deep.MidRow
import Derived.Deep.WholeRow
open Go.Value renaming int->aD, string->aL, slice->aM, pointer->aR, bool->aW, int->a5, oneCell'->a6
open Go.IntKind renaming i64->aE
open Go.Ending renaming returned->a3
open And renaming intro->a4
open Classical renaming em->a7
open List renaming length_reverse->a8, length_append->a9, getElem?_take->ba, getElem?_map->bb, drop_eq_getElem_cons->bc, drop_eq_nil_of_le->bd, all_eq_true->be, drop_append_of_le_length->bf, filter_append->bg, map_append->bh, filter_cons->bi, filter_nil->bj, length_map->bk, length_filter_le->bl
namespace Go.Proofs.YtcnagconagpkcaaGreatDoor
open Go.RowKit Go.Lib Go.Sort
attribute [local go_sem ↓] Go.wp_at_zero Go.wp_at_succ
set_option maxHeartbeats 4000000
set_option maxRecDepth 100000
theorem aeG:(Tryz.prog.info? 3).map (λ i=>(i.zero,i.size,i.bytes))=some (some (.int .i64 0),1,8):=by kernel_rfl
theorem iU {w:World} {b size n:Nat} {e:TypeId} {v:Value} {i:List Value} (h:w.ownsRow b e size v n i):∃ A c,v = aM A n c:=by
 rcases h.2 with ⟨rfl,a⟩ | ⟨j,g,f,d,-⟩
 .exact⟨none,0,by first | rw[a] | rw[a.1]⟩
 .exact⟨_,_,d⟩
theorem QR {B:Nat} {w:World} {g q:Nat} {d:Array Int} (h:B<=g):Below B w (putRow (a5 aE) (Sort.ahead w q) g 0 d):=by
 refine⟨rfl,rfl,rfl,?_,λ k a=>?_⟩
 .unfold putRow mapBlock;simp[Sort.ahead]
 .unfold putRow mapBlock;simp only[Sort.ahead,Array.getElem?_modify];rw[if_neg (by omega)]
theorem Yc (d:Array Int) (a:Array Value) (c:d.size<=a.size):(putCells (a5 aE) 0 d a).toList.take d.size=bI aE d.toList:=by
 apply List.ext_getElem?;intro i;rw[ba];by_cases hi:i<d.size
 .rw[if_pos hi];unfold putCells bI;have b:i<a.size:=by omega
  simp only[Array.getElem?_toList,Array.getElem?_mapIdx,bb,Array.getElem?_eq_getElem b,Array.getElem?_eq_getElem hi,Option.map_some];rw[if_pos (by omega)];simp[hi]
 .rw[if_neg hi,List.getElem?_eq_none (by rw[qi];simpa using hi)]
theorem Oj {B:Nat} {v:Value} (l:List Int) (w:World) (h:w.ownsRow B 3 1 v l.length (bI aE l)) (y:l.length<=1000000) :
  Calls Tryz.prog 233 #[v] w λ e w'=>e = a3 (.tuple #[])/\w'.ownsRow B 3 1 v l.length (bI aE l.reverse)/\Below B w w':=by
 obtain⟨f,⟨rfl,u⟩ | ⟨g,c,cur,rfl,m,n,s,t,d,i⟩⟩:=h
 .have x:l = []:=by
   cases l with
   | nil=>rfl
   | cons a r=>simp[bI] at u
  subst x;refine (Tryz.slices_Reverse_int_empty none 0 w).mono ?_;rintro e w' ⟨rfl,rfl⟩;exact⟨rfl,World.ownsRow_nil _ _ _ _,Below.refl _ _⟩
 .rw[Nat.mul_one] at d i;have k:ah w g 3 cur:=n;have o:Holds (a5 aE) w g 0 l.toArray:=by
   intro j p;have b:j<l.length:=by simpa using p
   refine⟨?_,k.frozen _⟩;rw[k.cell,Nat.zero_add];have e:(cur.toList.take l.length)[j]?=(bI aE l)[j]?:=by rw[i]
   rw[ba,if_pos (by omega)] at e;rw[<- Array.getElem?_toList,e];unfold bI;rw[bb,List.getElem?_eq_getElem b];simp[b]
  refine (Tryz.slices_Reverse_int g 0 c l w o (by omega)).mono ?_;rintro e w' ⟨rfl,q,rfl⟩;refine⟨rfl,⟨by rw[qi,a8,Nat.mul_one],.inr ⟨g,c,putCells (a5 aE) 0 l.reverse.toArray cur,rfl,m,?_,s,t,?_,?_⟩⟩,QR m⟩
  .unfold putRow mapBlock;simp only[Sort.ahead,Array.getElem?_modify,if_true,n];rfl
  .unfold putCells;simp[d]
  .rw[Nat.mul_one];have:=Yc l.reverse.toArray cur (by simp[d];omega);simp only[List.size_toArray,a8] at this;exact this
theorem Lp {N:List aj} (a:iQ N):∀ (k:Nat) (n:Int),n<N.length->n<k->(ups N n).length<=k
 | 0,n,_,h=>by rw[uH (by omega)];simp
 | k+1,n,hn,h=>by
  by_cases h0:n<0
  .rw[uH h0];simp
  .obtain⟨i,rfl⟩:∃ i:Nat,n=i:=⟨n.toNat,by omega⟩;have b:i<N.length:=by omega
   obtain⟨d,c⟩:=a i b;rw[xn a b,List.length_cons];have:=Lp a k N[i].par (by omega) (by omega);omega
theorem Tv {w:World} {B0 o T Q S:Nat} {x:nM} {f:bC} {N:List aj} {K:bu} (h:bF w B0 o T Q S x f N K) (y:iQ N) (n:Nat) (hn:n<N.length) :
  Calls Tryz.prog 210 #[aR (some ⟨o,0,none⟩),aD aE n] w λ e w'=>(∃ v,e = a3 v/\w'.ownsRow w.heap.size 3 1 v (AO N n).length (bI aE (AO N n)))/\IY w w':=by
 obtain⟨O,s,G,D,z⟩:=info_parts aeG;have I:=h.cap;have wB:=h.nodes.1;have W:=qh (λ (wr:World) (m:IY w wr) (i:Nat) (j:i<N.length)=>show ∃ ad,x.AN=some ad/\wr.cell? ⟨o,5,none⟩=some (aM (some ad) N.length x.cn)/\wr.cell? ⟨(ad.add (i*23)).block,(ad.add (i*23)).off+19,none⟩=some (aD aE N[i].par) from by
  have J:=h.keep m;obtain⟨ad,A,c,B,-,-,-,-,-,C,-,-,-⟩:=J.nd_ j;have c5:wr.cell? ⟨o,5,none⟩=some (aM x.AN N.length x.cn):=J.blk.cell 5;rw[B] at c5;exact⟨ad,B,c5,C⟩)
 have L:=qh y;have R:=qh (show (ups N n).length<=301 by have:=Lp y (n+1) n (by omega) (by omega);omega);have HW:=qh (show AO N n=(ups N n).reverse from rfl);clear h y;go_enter Tryz.func210,Tryz.ntmps210;go_wp2;go_loopw [1,5] (λ i v wr=>∃ (p:Int) (l:List Int),i = aD aE p /\ -1<=p/\p<N.length/\wr.ownsRow w.heap.size 3 1 v l.length (bI aE l)/\Hid (l ++ ups N p=ups N n)/\IY w wr) (λ i _ _=>(intOf i+1).toNat)
 case atStart=>exact⟨n,[],rfl,by omega,by omega,World.ownsRow_nil _ _ _ _,qh rfl,Below.refl _ _⟩
 case round =>
  obtain⟨p,l,rfl,aa,X,d,t,m⟩:=hrel;have hs:=m.size;have U:=qh d;have ab:l.length<=301:=by have:=R.o;rw[<- t.o,a9] at this;omega
  obtain⟨A9,c9,rfl⟩:=iU d;by_cases h0:p<0
  .have HE:=qh (show l=ups N n by rw[<- t.o,uH h0,List.append_nil]);clear d;go_wp2_with (go_at_call 233;(with_reducible refine (Oj l _ U.o (by omega)).mono ?_);rintro e2 w2 ⟨rfl,H,b⟩);go_ret;refine⟨⟨_,rfl,?_⟩,m.trans b⟩;rw[HW.o,<- HE.o,a8];exact H
  .obtain⟨i,rfl⟩:∃ i:Nat,p=i:=⟨p.toNat,by omega⟩;have j:i<N.length:=by omega
   have E:=qh (a4 (L.o i j) (xn L.o j));have F:=d.alloc (.cells #[.int .i64 i] 3 (0,0));have V:=qh d;obtain⟨q,r⟩:=af (N[i].par);have Z:=qh r;rw[r] at E;clear d r;go_wp2_with (at_builtin;refine wpList_append_own _ rfl _ _ 54 rfl w.heap.size 3 O (.int .i64 0) 1 8 Tryz.underlying54 s G D z rfl (by decide) _ _ _ rfl F ⟨wr.heap.size,0,none⟩ 1 1 [.int .i64 i] rfl rfl ?c1 ?c2 ?c3 ?c4 ?c5 ?_)
   case c2=>first | rfl | (intro u M;simp only[List.mem_singleton] at M;subst M;rfl)
   case c3=>unfold maxLen;omega
   case c4=>omega
   case c5=>first | omega | (simp;omega)
   intro v2 w2 a k _;have b:IY w w2:=(m.alloc hs _).grown k (by simp;omega) (λ g Y=>(F.lt g Y).1);obtain⟨ad,B,c5,C⟩:=W.o w2 b i j;have IG:=qh (show w2.ownsRow w.heap.size 3 1 v2 (l ++ [(i:Int)]).length (bI aE (l ++ [(i:Int)])) by
    have:=a;rw[show bI aE l ++ [a5 aE (i:Int)]=bI aE (l ++ [(i:Int)]) by simp[bI]] at this;rw[a9];exact this)
   rw[Z.o] at C;clear a k F;go_wp2;go_roundw
   case rel =>
    obtain⟨⟨q1,q2⟩,P⟩:=E.o;exact⟨q,l ++ [(i:Int)],rfl,q1,by omega,IG.o,qh (by rw[List.append_assoc,List.singleton_append,<- P];exact t.o),b⟩
   case measure =>
    have:=E.o.1;simp only[intOf];omega
end Go.Proofs.YtcnagconagpkcaaGreatDoor
namespace Go.Proofs.YtcnagconagpkcaaGreatDoor
open Go.RowKit
attribute [local go_sem ↓] Go.wp_at_zero Go.wp_at_succ
set_option maxHeartbeats 4000000
set_option maxRecDepth 100000
theorem Tz {N:List aj} (b:iQ N):∀ (k:Nat) (n:Int),n<N.length->n<k->∀ y∈ups N n,0<=y/\y<N.length
 | 0,n,_,h,y,a=>by rw[uH (by omega)] at a;cases a
 | k+1,n,hn,h,y,a=>by
  by_cases h0:n<0
  .rw[uH h0] at a;cases a
  .obtain⟨i,rfl⟩:∃ i:Nat,n=i:=⟨n.toNat,by omega⟩;have c:i<N.length:=by omega
   obtain⟨e,d⟩:=b i c;rw[xn b c] at a;rcases List.mem_cons.1 a with rfl | a
   .omega
   .exact Tz b k N[i].par (by omega) (by omega) y a
theorem abV {N:List aj} (a:iQ N) {n:Nat} (c:n<N.length):∀ y∈AO N n,0<=y/\y<N.length:=λ y b=>Tz a (n+1) n (by omega) (by omega) y (List.mem_reverse.1 b)
theorem TA {N:List aj} (a:iQ N) {n:Nat} (b:n<N.length):(AO N n).length<=n+1:=by
 unfold AO;rw[a8];exact Lp a (n+1) n (by omega) (by omega)
theorem UW {N:List aj} {X Y:List Int} {k:Nat} (b:k<X.length) (a:k<Y.length):uC N (X.drop k) (Y.drop k)=if X[k]=Y[k] then uC N (X.drop (k+1)) (Y.drop (k+1)) else decide ((ny N X[k]).par<0) || decide ((ny N (ny N X[k]).par).it.k≠2) || !(ny N (ny N X[k]).par).it.sh:=by
 rw[bc b,bc a,uC]
theorem Ol {N:List aj} {X Y:List Int} {k:Nat} (h:¬ (k<X.length/\k<Y.length)):uC N (X.drop k) (Y.drop k)=true:=by
 by_cases hx:k<X.length
 .have e:Y.drop k = []:=bd (by omega);rw[e];cases X.drop k <;> rfl
 .have e:X.drop k = []:=bd (by omega);rw[e];cases Y.drop k <;> rfl
theorem yg {w:World} {B0 J m1 m2 m3:Nat} {x:nM} {f:bC} {N:List aj} {K:bu} (h:bF w B0 J m1 m2 m3 x f N K) (o:iQ N) (a n:Nat) (V:a<N.length) (hn:n<N.length) :
  IE 174 #[aR (some ⟨J,0,none⟩),aD aE a,aD aE n] w (aW (je N a n)):=by
 have HA:=qh (show je N a n=(decide ((a:Int)<n) && uC N (AO N a) (AO N n)) from rfl);by_cases h0:n<=a
 .have HR:=qh (show je N a n=false by rw[HA.o,decide_eq_false (by omega)];rfl);go_enter Tryz.func174,Tryz.ntmps174;go_wp2;go_ret;exact⟨au (by rw[HR.o]),Below.refl _ _⟩
 have H1:=qh (Tv h o a V);have H2:=qh (λ (w1:World) (O:IY w w1)=>Tv (h.keep O) o n hn);have t:=qh (show je N a n=uC N (AO N a) (AO N n) by rw[HA.o,decide_eq_true (by omega)];rfl);have W:=TA o V;have U:=TA o hn;have H:=qh (abV o V);have HP:=qh o;have aa:=h.cap;have wB:=h.nodes.1;have HK:=qh (λ (wr:World) (O:IY w wr) (i:Nat) (F:i<N.length)=>show ∃ ad,x.AN=some ad/\wr.cell? ⟨J,5,none⟩=some (aM (some ad) N.length x.cn)/\wr.cell? (ad.add (i*23))=some (aD aE N[i].it.k)/\wr.cell? ⟨(ad.add (i*23)).block,(ad.add (i*23)).off+5,none⟩=some (aW N[i].it.sh)/\wr.cell? ⟨(ad.add (i*23)).block,(ad.add (i*23)).off+19,none⟩=some (aD aE N[i].par) from by
  have y:=h.keep O;obtain⟨ad,A,c,D,-,k0,-,k5,-,P,-,-,-⟩:=y.nd_ F;have c5:wr.cell? ⟨J,5,none⟩=some (aM x.AN N.length x.cn):=y.blk.cell 5;rw[D] at c5;exact⟨ad,D,c5,k0,k5,P⟩)
 obtain⟨X,hX⟩:=af (AO N a);obtain⟨Y,hY⟩:=af (AO N n);rw[hX] at H1 t W H;rw[hY] at H2 t U;have ac:(a:Int)<n:=by omega
 clear h o hX hY HA h0;go_enter Tryz.func174,Tryz.ntmps174;go_wp2_with (first
  | (go_at_call 210;(with_reducible refine H1.o.mono ?_);rintro e1 w1 ⟨⟨vx,rfl,ox⟩,r⟩)
  | (go_at_call 210;(with_reducible refine (H2.o _ r).mono ?_);rintro e2 w2 ⟨⟨vy,rfl,T⟩,s⟩))
 obtain⟨AX,cx,rfl⟩:=iU ox;obtain⟨AY,cy,rfl⟩:=iU T;have yE:=s.mono r.size;have m:=r.trans yE;have Z:=qh ((Reads.ig ox).below s);have HY:=qh (Reads.ig T);clear ox T;go_loopw [9] (λ i wr=>∃ k:Nat,i = aD aE k/\k<=301/\Hid (je N a n=uC N (X.drop k) (Y.drop k))/\IY w2 wr) (λ i _=>302 - (intOf i).toNat)
 case atStart=>exact⟨0,rfl,by omega,t,Below.refl _ _⟩
 case round =>
  obtain⟨k,rfl,hk,M,g⟩:=hrel;have d:=m.trans (g.mono m.size);have Z:=qh (Z.o.below (g.mono s.size));have HY:=qh (HY.o.below g);by_cases hkx:k<X.length
  .by_cases hky:k<Y.length
   .obtain⟨ax,u,rfl,-,hu,qx⟩:=Z.o.at_ hkx;obtain⟨ay,v,rfl,-,hv,qy⟩:=HY.o.at_ hky;obtain⟨_,rfl⟩:=jm _ _ _ _ hu;obtain⟨_,rfl⟩:=jm _ _ _ _ hv;have B:=qh (M.o.trans (UW hkx hky));have S:=qh (H.o X[k] (List.getElem_mem hkx));obtain⟨R,G⟩:=af (X[k]);obtain⟨Y0,C⟩:=af (Y[k]);rw[G] at qx B S;rw[C] at qy B;clear hu hv G C;by_cases hxy:R=Y0
    .subst hxy;have HF:=qh (B.o.trans (if_pos rfl));go_upto_region 7 with (fail);go_region;go_wp2;go_roundw
     case rel=>exact⟨k+1,by go_num,by omega,HF,by first | exact g | exact g.drew⟩
     case measure =>
      simp[intOf];omega
    .obtain⟨i,rfl⟩:∃ i:Nat,R=i:=⟨R.toNat,by have:=S.o;omega⟩;have F:i<N.length:=by have:=S.o;omega
     obtain⟨ad,D,c5,-,-,P⟩:=HK.o wr d i F;have b:=qh (B.o.trans (if_neg hxy));rw[jy F] at b;have L:=qh (HP.o i F);obtain⟨p,hp⟩:=af (N[i].par);rw[hp] at b P L;clear hp;by_cases hp0:p<0
     .have l:=qh (show je N a n=true by rw[b.o,decide_eq_true hp0];rfl);go_upto_region 7 with (fail);go_region;go_upto_region 8 with (fail);go_region;go_wp2;go_ret;exact⟨au (by rw[l.o]),by first | exact d | exact d.drew | exact d.drew.drew⟩
     .obtain⟨j,rfl⟩:∃ j:Nat,p=j:=⟨p.toNat,by omega⟩;have hj:j<N.length:=by have:=L.o;omega
      obtain⟨Q,E,-,k0,k5,-⟩:=HK.o wr d j hj;have e':Q=ad:=Option.some.inj (E.symm.trans D);subst e';rw[jy hj,decide_eq_false hp0,Bool.false_or] at b;obtain⟨kk,z⟩:=af (N[j].it.k);obtain⟨ss,I⟩:=af (N[j].it.sh);rw[z] at k0 b;rw[I] at k5 b;have L:=qh L.o;clear z I D E B;by_cases y:kk=2
      .subst y;have l:=qh (show je N a n=!ss by rw[b.o];rfl);go_upto_region 7 with (fail);go_region;go_upto_region 8 with (fail);go_region;go_wp2;go_ret;exact⟨au (by rw[l.o]),by first | exact d | exact d.drew | exact d.drew.drew⟩
      .have l:=qh (show je N a n=true by rw[b.o,decide_eq_true y];rfl);have ab:(kk != 2)=true:=by simpa using y
       go_upto_region 7 with (fail);go_region;go_upto_region 8 with (fail);go_region;go_wp2;go_ret;exact⟨au (by rw[l.o]),by first | exact d | exact d.drew | exact d.drew.drew⟩
   .have l:=qh (M.o.trans (Ol (λ q=>hky q.2)));go_wp2;go_ret;exact⟨au (by rw[l.o]),by first | exact d | exact d.drew | exact d.drew.drew⟩
  .have l:=qh (M.o.trans (Ol (λ q=>hkx q.1)));go_wp2;go_ret;exact⟨au (by rw[l.o]),by first | exact d | exact d.drew | exact d.drew.drew⟩
end Go.Proofs.YtcnagconagpkcaaGreatDoor
namespace Go.Proofs.YtcnagconagpkcaaGreatDoor
open Go.RowKit Go.Lib
attribute [local go_sem ↓] Go.wp_at_zero Go.wp_at_succ
set_option maxHeartbeats 4000000
set_option maxRecDepth 100000
def Df (t:TypeId) (v:Value):Sem Value:=Instr.loadAt t v
def JB (t:TypeId) (p v:Value):Sem Unit:=Instr.storeAt t p v
theorem ld_item (ρ:Operand->Value) (b:Option Tmp) (x:Operand) (ty:TypeId) (pos:String) (a:Array Edge) (guard:Option (Nat × Bool)) :
  execOp ρ { dst:=b,op:=.load 59 x,type:=ty,pos,after:=a,guard } = (do pure (.value (<- Df 59 (ρ x)))):=rfl
theorem st_item (ρ:Operand->Value) (b:Option Tmp) (x y:Operand) (ty:TypeId) (pos:String) (a:Array Edge) (guard:Option (Nat × Bool)) :
  execOp ρ { dst:=b,op:=.store 59 x y,type:=ty,pos,after:=a,guard } = (do JB 59 (ρ x) (ρ y);pure .skip):=rfl
theorem ld_node (ρ:Operand->Value) (b:Option Tmp) (x:Operand) (ty:TypeId) (pos:String) (a:Array Edge) (guard:Option (Nat × Bool)) :
  execOp ρ { dst:=b,op:=.load 110 x,type:=ty,pos,after:=a,guard } = (do pure (.value (<- Df 110 (ρ x)))):=rfl
theorem st_node (ρ:Operand->Value) (b:Option Tmp) (x y:Operand) (ty:TypeId) (pos:String) (a:Array Edge) (guard:Option (Nat × Bool)) :
  execOp ρ { dst:=b,op:=.store 110 x y,type:=ty,pos,after:=a,guard } = (do JB 110 (ρ x) (ρ y);pure .skip):=rfl
theorem ld_ans (ρ:Operand->Value) (b:Option Tmp) (x:Operand) (ty:TypeId) (pos:String) (a:Array Edge) (guard:Option (Nat × Bool)) :
  execOp ρ { dst:=b,op:=.load 57 x,type:=ty,pos,after:=a,guard } = (do pure (.value (<- Df 57 (ρ x)))):=rfl
theorem st_ans (ρ:Operand->Value) (b:Option Tmp) (x y:Operand) (ty:TypeId) (pos:String) (a:Array Edge) (guard:Option (Nat × Bool)) :
  execOp ρ { dst:=b,op:=.store 57 x y,type:=ty,pos,after:=a,guard } = (do JB 57 (ρ x) (ρ y);pure .skip):=rfl
theorem ld_part (ρ:Operand->Value) (b:Option Tmp) (x:Operand) (ty:TypeId) (pos:String) (a:Array Edge) (guard:Option (Nat × Bool)) :
  execOp ρ { dst:=b,op:=.load 266 x,type:=ty,pos,after:=a,guard } = (do pure (.value (<- Df 266 (ρ x)))):=rfl
theorem st_part (ρ:Operand->Value) (b:Option Tmp) (x y:Operand) (ty:TypeId) (pos:String) (a:Array Edge) (guard:Option (Nat × Bool)) :
  execOp ρ { dst:=b,op:=.store 266 x y,type:=ty,pos,after:=a,guard } = (do JB 266 (ρ x) (ρ y);pure .skip):=rfl
theorem ld_rule (ρ:Operand->Value) (b:Option Tmp) (x:Operand) (ty:TypeId) (pos:String) (a:Array Edge) (guard:Option (Nat × Bool)) :
  execOp ρ { dst:=b,op:=.load 144 x,type:=ty,pos,after:=a,guard } = (do pure (.value (<- Df 144 (ρ x)))):=rfl
theorem st_rule (ρ:Operand->Value) (b:Option Tmp) (x y:Operand) (ty:TypeId) (pos:String) (a:Array Edge) (guard:Option (Nat × Bool)) :
  execOp ρ { dst:=b,op:=.store 144 x y,type:=ty,pos,after:=a,guard } = (do JB 144 (ρ x) (ρ y);pure .skip):=rfl
theorem ld_form (ρ:Operand->Value) (b:Option Tmp) (x:Operand) (ty:TypeId) (pos:String) (a:Array Edge) (guard:Option (Nat × Bool)) :
  execOp ρ { dst:=b,op:=.load 26 x,type:=ty,pos,after:=a,guard } = (do pure (.value (<- Df 26 (ρ x)))):=rfl
theorem st_form (ρ:Operand->Value) (b:Option Tmp) (x y:Operand) (ty:TypeId) (pos:String) (a:Array Edge) (guard:Option (Nat × Bool)) :
  execOp ρ { dst:=b,op:=.store 26 x y,type:=ty,pos,after:=a,guard } = (do JB 26 (ρ x) (ρ y);pure .skip):=rfl
theorem yh {w:World} {t:TypeId} {ad:Addr} {cs:List Value} {d:TypeDesc} (g:Tryz.prog.underlying t=some d) (h:d.isRow=true) (b:(Tryz.prog.info? t).map (·.size)=some cs.length) (e:∀ j u,cs[j]?=some u->w.cell? (ad.add j)=some u) :
  (Df t (aR (some ad))).run Tryz.prog w = .ok (.agg cs.toArray) w:=by
 have c:(loadCells ad cs.length).run Tryz.prog w = .ok cs.toArray w:=run_loadCells_list (P:=Tryz.prog) w ad cs e;cases hq:Tryz.prog.info? t with
 | none=>simp[hq] at b
 | some i =>
  have f:i.size=cs.length:=by simpa [hq] using b
  have a:(isAgg t).run Tryz.prog w = .ok true w:=by
   unfold isAgg;rw[Sem.run_bind,run_underlying g w];cases d <;> simp_all
  simp[Df,Instr.loadAt,Instr.sureAddr,loadVar,Sem.run_bind,a,sizeOf,typeInfo,hq,f,c]
theorem yj {w:World} {t:TypeId} {c c':Array Value} (d:(Tryz.prog.info? t).map (·.size)=some c'.size) (b:c.size=c'.size) (a:c'.all (·.oneCell')=true) :
  (JB t (aR (some ⟨w.heap.size,0,none⟩)) (.agg c')).run Tryz.prog (w.alloc (.cells c t)) = .ok () (w.alloc (.cells c' t)):=run_storeAt_new w t c c' d b a
theorem az (w:World) (o:Obj):IY w (w.alloc o):=(Below.refl _ w).alloc (Nat.le_refl _) _
end Go.Proofs.YtcnagconagpkcaaGreatDoor
namespace Go.Proofs.YtcnagconagpkcaaGreatDoor
open Go.RowKit
attribute [local go_sem ↓] Go.wp_at_zero Go.wp_at_succ
attribute [local go_sem ↓] ld_item st_item ld_node st_node ld_ans st_ans ld_part st_part ld_rule st_rule ld_form st_form
set_option maxHeartbeats 4000000
set_option maxRecDepth 100000
theorem bF.pI {w:World} {B0 g y t v:Nat} {x:nM} {f:bC} {N:List aj} {K:bu} (h:bF w B0 g y t v x f N K) {i:Nat} (C:i<N.length) :
  ∃ ad o s k l p q r n m b B1 b1 B2 b2 B3 b3 A c,x.AN=some ad/\w.cell? ⟨g,5,none⟩=some (aM (some ad) N.length x.cn)/\gY w B0 N[i].it (itC N[i].it o s k l p q r n m b (X9 N[i].it.ans B1 b1 B2 b2 B3 b3))/\(qG w w.heap.size A c N[i].lo/\N[i].lo.length<=1000) /\
   ∀ j u,((aD aE N[i].it.k)::(aL N[i].it.nm)::(aM o N[i].it.iff.length s)::(aM k N[i].it.ph.length l)::(aM p N[i].it.items.length q)::(aW N[i].it.sh)::(aM r N[i].it.cnt.length n)::(aL N[i].it.over)::(aD aE N[i].it.ans.k)::(aD aE N[i].it.ans.lo)::(aD aE N[i].it.ans.hi)::(aD aE N[i].it.ans.pl)::(aL N[i].it.ans.ls)::(aM B1 N[i].it.ans.only.length b1)::(aW N[i].it.ans.sh)::(aM B2 N[i].it.ans.rs.length b2)::(aW N[i].it.ans.need)::(aM B3 N[i].it.ans.ch.length b3)::(aM m N[i].it.cmp.length b)::[aD aE N[i].par,aD aE N[i].mZ,aD aE N[i].eQ,aM A N[i].lo.length c])[j]?=some u->w.cell? ((ad.add (i*23)).add j)=some u:=by
 obtain⟨ad,cs,e,E,⟨D,A,c,rfl,hit,d,z,-⟩,B⟩:=h.nodes.at_ C;have b:w.cell? ⟨g,5,none⟩=some (aM x.AN N.length x.cn):=h.blk.cell 5;rw[e] at b;have a:=hit;cases hit;exact⟨ad,_,_,_,_,_,_,_,_,_,_,_,_,_,_,_,_,A,c,e,b,a,⟨d,z⟩,B⟩
theorem aP.get {w:World} {b:Nat} {d:List (ByteArray × Value)} (h:aP w b d) {t e:TypeId} (l:Tryz.prog.underlying t=some (.map 9 e)) {z:Value} (i:(zeroValue e).run Tryz.prog w = .ok z w) {s:ByteArray} (m:s.size<=maxLen) :
  (Instr.lookup t (.map (some b)) (aL s) false).run Tryz.prog w = .ok ((fK d s).getD z) w:=by
 obtain⟨D,k,n,g⟩:=h.ex;obtain⟨v,ps,c,f⟩:=k.lookup (Maps.string_keyed Tryz.underlying9) l i (zd:=.held z) (zp:=[]) rfl (keyS m);rw[c];have j:=g s (.held z);have a:(DataW.held v:DataW Value)=D.atKey (.string s.data.toList) (.held z):=by
  unfold R0 at f;exact (Prod.mk.inj (Option.some.inj f)).1
 rw[j] at a;cases hg:fK d s with
 | none=>rw[hg] at a;rw[DataW.held.inj a];rfl
 | some u=>rw[hg] at a;rw[DataW.held.inj a];rfl
theorem yN {w:World} {ad:Addr} {cs:List Value} (a:cs.length=19) (b:∀ j u,cs[j]?=some u->w.cell? (ad.add j)=some u):(Df 59 (aR (some ad))).run Tryz.prog w = .ok (.agg cs.toArray) w:=
 yh Tryz.underlying59 rfl (by rw[a];kernel_rfl) b
theorem JC {w:World} {cs:List Value} (a:cs.length=19) (b:∀ v∈cs,v.oneCell'=true):(JB 59 (aR (some ⟨w.heap.size,0,none⟩)) (.agg cs.toArray)).run Tryz.prog (w.alloc (.cells #[aD aE 0,aL ⟨#[]⟩,aM none 0 0,aM none 0 0,aM none 0 0,aW false,aM none 0 0,aL ⟨#[]⟩,aD aE 0,aD aE 0,aD aE 0,aD aE 0,aL ⟨#[]⟩,aM none 0 0,aW false,aM none 0 0,aW false,aM none 0 0,aM none 0 0] 59 (0,0))) = .ok () (w.alloc (.cells cs.toArray 59 (0,0))):=
 yj (by rw[show cs.toArray.size=19 from a];kernel_rfl) (show 19=cs.toArray.size from a.symm) (by rw[<- Array.all_toList];exact be.2 b)
theorem Yd {w:World} {B0 z m1 U t:Nat} {x:nM} {f:bC} {N:List aj} {K:bu} (h:bF w B0 z m1 U t x f N K) (n:Nat) (hn:n<N.length) :
  IE 167 #[aR (some ⟨z,0,none⟩),aD aE n] w (aD aE (Gl K N[n])):=by
 have L:=h.cap;have wB:=h.nodes.1;obtain⟨ad,y,J,o,q,B,C,I,v,s,H,B1,b1,B2,b2,B3,b3,A,c,hA,Lr,hit,g,G⟩:=h.pI hn;obtain⟨M,r,T⟩:=h.kd;obtain⟨d,S⟩:=af (N[n]);rw[S] at hit g G ⊢;have m:d.it.nm.size<=maxLen:=by cases hit;assumption
 obtain⟨cs,b⟩:∃ cs:List Value,[aD aE d.it.k,aL d.it.nm,aM y d.it.iff.length J,aM o d.it.ph.length q,aM B d.it.items.length C,aW d.it.sh,aM I d.it.cnt.length v,aL d.it.over,aD aE d.it.ans.k,aD aE d.it.ans.lo,aD aE d.it.ans.hi,aD aE d.it.ans.pl,aL d.it.ans.ls,aM B1 d.it.ans.only.length b1,aW d.it.ans.sh,aM B2 d.it.ans.rs.length b2,aW d.it.ans.need,aM B3 d.it.ans.ch.length b3,aM s d.it.cmp.length H]=cs:=⟨_,rfl⟩;have Q:cs.length=19:=by subst b;rfl
 have V:=yN (w:=w) Q (ad:=ad.add (n*23)) (λ j u O=>G j u (by subst b;rw[show ((aD aE d.it.k)::(aL d.it.nm)::(aM y d.it.iff.length J)::(aM o d.it.ph.length q)::(aM B d.it.items.length C)::(aW d.it.sh)::(aM I d.it.cnt.length v)::(aL d.it.over)::(aD aE d.it.ans.k)::(aD aE d.it.ans.lo)::(aD aE d.it.ans.hi)::(aD aE d.it.ans.pl)::(aL d.it.ans.ls)::(aM B1 d.it.ans.only.length b1)::(aW d.it.ans.sh)::(aM B2 d.it.ans.rs.length b2)::(aW d.it.ans.need)::(aM B3 d.it.ans.ch.length b3)::(aM s d.it.cmp.length H)::[aD aE d.par,aD aE d.mZ,aD aE d.eQ,aM A d.lo.length c]:List Value) = [aD aE d.it.k,aL d.it.nm,aM y d.it.iff.length J,aM o d.it.ph.length q,aM B d.it.items.length C,aW d.it.sh,aM I d.it.cnt.length v,aL d.it.over,aD aE d.it.ans.k,aD aE d.it.ans.lo,aD aE d.it.ans.hi,aD aE d.it.ans.pl,aL d.it.ans.ls,aM B1 d.it.ans.only.length b1,aW d.it.ans.sh,aM B2 d.it.ans.rs.length b2,aW d.it.ans.need,aM B3 d.it.ans.ch.length b3,aM s d.it.cmp.length H] ++ [aD aE d.par,aD aE d.mZ,aD aE d.eQ,aM A d.lo.length c] from rfl];rw[List.getElem?_append_left (List.getElem?_eq_some_iff.1 O).1];exact O));have X:=JC (w:=w) Q (by subst b;simp[a6]);obtain⟨W,k⟩:=aC (w.alloc (.cells cs.toArray 59 (0,0)));have a:IY w W:=k▸az w _;have l:ah W w.heap.size 59 cs.toArray:=k▸ah.new w _ _;have Y:=qh h;have R:=qh (a4 (r.below a r.lt) T);have E:=qh b;clear hit g G S hA h r T b;have P:=qh (show Gl K d=if d.it.k=4 then d.it.ans.k else kK K d.it.nm from rfl);go_enter Tryz.func167,Tryz.ntmps167;go_upto_region 2 with (fail);rw[<- k];clear Lr;clear k;rw[<- E.o] at l;have Z:W.cell? ⟨w.heap.size,0,none⟩=_:=l.cell 0;have q1:W.cell? ⟨w.heap.size,1,none⟩=_:=l.cell 1;have q8:W.cell? ⟨w.heap.size,8,none⟩=_:=l.cell 8;simp only[List.getElem?_toArray,List.getElem?_cons_zero,List.getElem?_cons_succ] at Z q1 q8;by_cases h4:d.it.k=4
 .have F:=qh (P.o.trans (if_pos h4));have D:(d.it.k == 4)=true:=by simp[h4]
  clear h4;go_wp2;go_ret;exact⟨ag (by rw[F.o]),a⟩
 .have F:=qh (P.o.trans (if_neg h4));have D:(d.it.k == 4)=false:=by simp[h4]
  have c8:W.cell? ⟨z,8,none⟩=some (.map (some t)):=(Y.o.keep a).blk.cell 8;have hl:=(show aP W.drew t M from R.o.1.same rfl).get Tryz.underlying112 (Yb W.drew) m;have i:((fK M d.it.nm).getD (.int .i64 0)) = .int .i64 (kK K d.it.nm):=by
   rw[R.o.2 d.it.nm];unfold kK;cases K.find? (λ p=>decide (p.1=d.it.nm)) <;> rfl
  rw[i] at hl;clear i;go_upto_region 4 with (fail);go_region;go_wp2;go_ret;exact⟨ag (by rw[F.o]),by first | exact a | exact a.drew⟩
end Go.Proofs.YtcnagconagpkcaaGreatDoor
namespace Go.Proofs.YtcnagconagpkcaaGreatDoor
open Go.RowKit
def wC {α:Type} (T:TypeId) (k:Nat) (P:World->Nat->α->List Value->Prop) (w:World) (B:Nat) (v:Value) (l:List α):Prop:=
 ∃ cs,w.ownsRow B T k v l.length cs/\∀ i (h:i<l.length),P w B l[i] ((cs.drop (i*k)).take k)
def vV (w:World) (B:Nat) (d:aG) (cs:List Value):Prop:=
 ∃ A c,cs = [aL d.nm,aD aE d.kind,aM A d.loops.length c]/\w.ownsRow B 9 1 (aM A d.loops.length c) d.loops.length (jq d.loops)/\d.nm.size<=maxLen/\d.loops.length<=maxLen/\∀ s∈d.loops,s.size<=maxLen
def xw (w:World) (B:Nat) (d:aQ) (cs:List Value):Prop:=
 ∃ A c,cs = [aL d.nm,aM A d.loops.length c]/\w.ownsRow B 9 1 (aM A d.loops.length c) d.loops.length (jq d.loops)/\d.nm.size<=maxLen/\d.loops.length<=maxLen/\∀ s∈d.loops,s.size<=maxLen
theorem Oo {w:World} {B n c:Nat} {A:Option Addr} {e:TypeId} {g:List Value} (h:w.ownsRow B e 1 (aM A n c) n g):n<=c:=by
 rcases h.2 with ⟨i,-⟩ | ⟨j,a,f,d,-,-,b,-⟩
 .injection i with _ b h2;omega
 .injection d with _ _ e3;omega
theorem dm {w w':World} {B size n:Nat} {e:TypeId} {v:Value} {xs:List Value} (h:w.ownsRow B e size v n xs) (i:IY w w'):w'.ownsRow B e size v n xs:=by
 refine⟨h.1,h.2.imp id ?_⟩;rintro ⟨d,b,a,f,g,c,e3⟩;exact⟨d,b,a,f,g,(i.block d (ah.lt (t:=e) c)).trans c,e3⟩
theorem vV.at_ {w:World} {B:Nat} {d:aG} {cs:List Value} (h:vV w B d cs):lu w w.heap.size d cs:=by
 obtain⟨A,c,e,a,b,f,g⟩:=h;exact⟨⟨A,c,e,Reads.ig a,Oo a⟩,b,f,g⟩
theorem xw.at_ {w:World} {B:Nat} {d:aQ} {cs:List Value} (h:xw w B d cs):lV w w.heap.size d cs:=by
 obtain⟨A,c,e,a,b,f,g⟩:=h;exact⟨⟨A,c,e,Reads.ig a,Oo a⟩,b,f,g⟩
structure Oq {α:Type} (T:TypeId) (P:World->Nat->α->List Value->Prop):Prop where
 later:∀ {w w':World} {B:Nat} {d:α} {cs:List Value},P w B d cs->IY w w'->P w' B d cs
 grown:∀ {w w':World} {B:Nat} {d:α} {cs:List Value} {v:Value} {k n:Nat} {xs:List Value},P w B d cs->w.ownsRow B T k v n xs->w.grownBy w' v.ownBlock->P w' B d cs
theorem sN {w w':World} {B k n f e:Nat} {T c:TypeId} {v u:Value} {l ys:List Value} (h:w.ownsRow B c f u e ys) (j:w.ownsRow B T k v n l) (m:c≠T) (o:w.grownBy w' v.ownBlock):w'.ownsRow B c f u e ys:=by
 refine h.kept o ?_;rcases j.2 with ⟨rfl,-⟩ | ⟨g,b,a,rfl,-,p,-⟩
 .rcases h.2 with ⟨rfl,-⟩ | ⟨q,d,i,rfl,-⟩
  .exact .inl rfl
  .right;simp[Value.ownBlock]
 .right;rw[show (Value.slice (some ⟨g,0,none⟩) n b).ownBlock=some g from rfl];exact qg h (show ah w g T a from p) m
theorem gZ:Oq 51 vV where
 later:=by
  rintro w w' B d cs ⟨A,c,e,a,b⟩ h;exact⟨A,c,e,dm a h,b⟩
 grown:=by
  rintro w w' B d cs v k n i ⟨A,c,e,a,b⟩ f g;exact⟨A,c,e,sN a f (by decide) g,b⟩
theorem oz:Oq 184 xw where
 later:=by
  rintro w w' B d cs ⟨A,c,e,a,b⟩ h;exact⟨A,c,e,dm a h,b⟩
 grown:=by
  rintro w w' B d cs v k n i ⟨A,c,e,a,b⟩ f g;exact⟨A,c,e,sN a f (by decide) g,b⟩
section
variable {α:Type} {T:TypeId} {k:Nat} {P:World->Nat->α->List Value->Prop} {w w':World} {B:Nat} {v v':Value} {l:List α}
theorem wC.nil:wC T k P w B (aM none 0 0) ([]:List α):=⟨[],World.ownsRow_nil _ _ _ _,λ i h=>by cases h⟩
theorem wC.keep (b:Oq T P) (h:wC T k P w B v l) (a:IY w w'):wC T k P w' B v l:=by
 obtain⟨cs,c,d⟩:=h;exact⟨cs,dm c a,λ i e=>b.later (d i e) a⟩
theorem wC.snoc (b:Oq T P) {d:α} {cs ds:List Value} (a:w.ownsRow B T k v l.length cs) (f:∀ i (h:i<l.length),P w B l[i] ((cs.drop (i*k)).take k)) (j:P w B d ds) (p:ds.length=k)
  (n:w'.ownsRow B T k v' (l.length+1) (cs ++ ds)) (c:w.grownBy w' v.ownBlock):wC T k P w' B v' (l ++ [d]):=by
 have g:cs.length=l.length*k:=a.1;refine⟨cs ++ ds,by rw[a9];exact n,λ i o=>?_⟩;rw[a9,List.length_singleton] at o;by_cases hlt:i<l.length
 .rw[List.getElem_append_left hlt];have m:(i+1)*k<=l.length*k:=Nat.mul_le_mul_right k hlt;rw[Nat.add_mul,Nat.one_mul] at m;rw[bf (by omega),List.take_append_of_le_length (by rw[List.length_drop];omega)];exact b.grown (f i hlt) a c
 .have e:i=l.length:=by omega
  subst e;rw[<- g,bf (by omega),List.drop_length,List.nil_append,List.take_of_length_le (by omega)];simp only[List.getElem_append_right (Nat.le_refl _),Nat.sub_self,List.getElem_cons_zero];exact b.grown j a c
end
theorem wC.cells {w:World} {B:Nat} {A:Option Addr} {c:Nat} {l:List aG} (h:wC 51 3 vV w B (aM A l.length c) l) (d:l.length<=maxLen):bU w w.heap.size A l:=by
 obtain⟨cs,a,b⟩:=h;exact⟨d,cs,Reads.ig a,λ i e=>(b i e).at_⟩
theorem wC.vW {w:World} {B:Nat} {A:Option Addr} {c:Nat} {l:List aQ} (h:wC 184 2 xw w B (aM A l.length c) l) (d:l.length<=maxLen):dX w w.heap.size A l:=by
 obtain⟨cs,a,b⟩:=h;exact⟨d,cs,Reads.ig a,λ i e=>(b i e).at_⟩
end Go.Proofs.YtcnagconagpkcaaGreatDoor
namespace Go.Proofs.YtcnagconagpkcaaGreatDoor
open Go.RowKit
attribute [local go_sem ↓] Go.wp_at_zero Go.wp_at_succ
attribute [local go_sem ↓] ld_item st_item ld_node st_node ld_ans st_ans ld_part st_part ld_rule st_rule ld_form st_form
set_option maxHeartbeats 4000000
set_option maxRecDepth 100000
theorem ahb {e:Func} {s:Tmp} {tmps:Array Value} {T:TypeId} {a:World} {g:Nat} {o n f a0 a1 a2:Value} {Q:Ending->World->Prop} (i:e.results = #[.cell s T]) (l:T=51) (m:tmps[s]?.getD undef = aR (some ⟨g,0,none⟩)) (B:ah a g T #[o,n,f]) (h:∀ W,W=((((a.setCell ⟨g,0,none⟩ a0).setCell ⟨g,1,none⟩ a1).setCell ⟨g,2,none⟩ a2))->Q (a3 (.agg #[a0,a1,a2])) W) :
  bodyPost Tryz.prog e Q Exit.ret { tmps:=tmps,defers:=[] } ((((a.setCell ⟨g,0,none⟩ a0).setCell ⟨g,1,none⟩ a1).setCell ⟨g,2,none⟩ a2)):=by
 subst l;obtain⟨W,d⟩:=aC (((((a.setCell ⟨g,0,none⟩ a0).setCell ⟨g,1,none⟩ a1).setCell ⟨g,2,none⟩ a2)));have b:ah W g 51 #[a0,a1,a2]:=by rw[d];exact (((B.eG 0 _).eG 1 _).eG 2 _)
 have c:=d;rw[<- d];have j:W.cell? ⟨g,0,none⟩=some a0:=b.cell 0;have p:W.cell? ⟨g,1,none⟩=some a1:=b.cell 1;have k:W.cell? ⟨g,2,none⟩=some a2:=b.cell 2;exact bodyPost_ret (v:=.agg #[a0,a1,a2]) (by simp[results,i,go_sem,m,j,p,k]) rfl (h W c)
theorem oQ {w:World} {B size n:Nat} {e:TypeId} {v:Value} {xs:List Value} (h:w.ownsRow B e size v n xs) {p:Addr} (i:p.block<B) (u:Value):(w.setCell p u).ownsRow B e size v n xs:=by
 refine⟨h.1,h.2.imp id ?_⟩;rintro ⟨c,b,a,d,f,g,e3⟩;exact⟨c,b,a,d,f,(Below.heap_setCell w p u c (by omega)).trans g,e3⟩
theorem below3 {w c:World} {b g:Nat} (h:Below b w c) (a:b<=g) (e f d:Value):Below b w (((c.setCell ⟨g,0,none⟩ e).setCell ⟨g,1,none⟩ f).setCell ⟨g,2,none⟩ d):=
 (((h.setCell (p:=⟨g,0,none⟩) a _).setCell (p:=⟨g,1,none⟩) a _).setCell (p:=⟨g,2,none⟩) a _)
theorem ah.z3 {w:World} {g:Nat} {T:TypeId} {b c a:Value} (h:ah w g T #[b,c,a]):w.cell? ⟨g,0,none⟩=some b/\w.frozen? ⟨g,0,none⟩=false/\w.cell? ⟨g,1,none⟩=some c/\w.frozen? ⟨g,1,none⟩=false/\w.cell? ⟨g,2,none⟩=some a/\w.frozen? ⟨g,2,none⟩=false:=⟨h.cell 0,h.frozen 0,h.cell 1,h.frozen 1,h.cell 2,h.frozen 2⟩
theorem JD {w:World} {B0 y m1 S T:Nat} {x:nM} {f:bC} {N:List aj} {K:bu} (h:bF w B0 y m1 S T x f N K) (n:Nat) (M:n<N.length) :
  Calls Tryz.prog 110 #[aR (some ⟨y,0,none⟩),aD aE n] w λ e w'=>(∃ cs,e = a3 (.agg cs.toArray)/\vV w' w.heap.size (lh K N[n]) cs)/\IY w w':=by
 have G:=h.cap;have wB:=h.nodes.1;obtain⟨ad,A1,c1,A2,c2,A3,c3,A4,c4,A5,c5,B1,b1,B2,b2,B3,b3,A,c,hA,L,hit,l,z⟩:=h.pI M;have F:=qh (λ (w':World) (i:IY w w')=>Yd (h.keep i) n M);obtain⟨d,P⟩:=af (N[n]);rw[P] at hit l z F ⊢;have r:d.it.nm.size<=maxLen:=by cases hit;assumption
 have C:w.cell? ⟨(ad.add (n*23)).block,(ad.add (n*23)).off+1,none⟩=some (aL d.it.nm):=z 1 _ rfl;have D:w.cell? ⟨(ad.add (n*23)).block,(ad.add (n*23)).off+22,none⟩=some (aM A d.lo.length c):=z 22 _ rfl;obtain⟨V,j⟩:=af (Gl K d);rw[j] at F;have E:=qh j;have t:=qh (a4 l r);obtain⟨W,B⟩:=aC (w.alloc (.cells #[aL ⟨#[]⟩,aD aE 0,aM none 0 0] 51 (0,0)));have b:IY w W:=B▸az w _;have H:ah W w.heap.size 51 #[aL ⟨#[]⟩,aD aE 0,aM none 0 0]:=B▸ah.new w _ _;have p:=qh H;have Y:=qh (show ∀ w',IY w w'->Calls Tryz.prog 38 #[aM A d.lo.length c] w' λ e u=>∃ v,e = a3 v/\u.ownsRow w'.heap.size 9 1 v d.lo.length (jq d.lo)/\IY w' u from λ w' i =>
  (cloneS d.lo A c w.heap.size w' (t.o.1.1.1.below i) (by have:=t.o.1.2;omega)))
 have q:=qh (show ∀ w',IY w w'->w'.cell? ⟨y,5,none⟩=some (aM (some ad) N.length x.cn)/\w'.cell? ⟨(ad.add (n*23)).block,(ad.add (n*23)).off+1,none⟩=some (aL d.it.nm)/\w'.cell? ⟨(ad.add (n*23)).block,(ad.add (n*23)).off+22,none⟩=some (aM A d.lo.length c)/\IY w w' from λ w' i=>⟨Below.cell_of i L,Below.cell_of i C,Below.cell_of i D,i⟩);clear hit l z P hA h j r C D L H;go_enter Tryz.func110,Tryz.ntmps110;go_upto_region 1 with (fail);rw[<- B];clear B;go_region_held3 (λ w'=>w'.cell? ⟨y,5,none⟩=some (aM (some ad) N.length x.cn)/\w'.cell? ⟨(ad.add (n*23)).block,(ad.add (n*23)).off+1,none⟩=some (aL d.it.nm)/\w'.cell? ⟨(ad.add (n*23)).block,(ad.add (n*23)).off+22,none⟩=some (aM A d.lo.length c)/\IY w w')
  (first | exact q.o _ b | exact q.o _ b.drew | exact q.o _ g | exact q.o _ m | exact q.o _ (below3 m (Nat.le_refl _) _ _ _))
  (first
   | (go_at_call 167;(with_reducible refine (F.o _ b.drew).mono ?_);rintro C w1 ⟨rfl,a⟩;have a:IY W w1:=(Below.refl W.heap.size W).drew.trans a;have g:=b.trans (a.mono b.size))
   | (go_at_call 38;(with_reducible refine (Y.o _ g).mono ?_);rintro D w2 ⟨v,rfl,k,s⟩;obtain⟨I,J,rfl⟩:=iU k;have m:=g.trans (s.mono g.size);have o:=(p.o.below a p.o.lt).below s (ah.lt (p.o.below a p.o.lt));obtain⟨y0,X,y1,R,Z,Q⟩:=ah.z3 o))
 all_goals
  try clear hHeld
  have U:=qh k;have aa:w.heap.size+1<=w1.heap.size:=by have:=a.size;have:=p.o.lt;omega
  clear y0 X y1 R Z Q k;go_wp2_with fail;refine ahb Tryz.results110 rfl rfl o (λ W9 O=>⟨⟨[aL d.it.nm,aD aE V,aM I d.lo.length J],rfl,⟨I,J,by rw[<- E.o];rfl,?_,t.o.2,t.o.1.1.2.2.1,t.o.1.1.2.2.2⟩⟩,by rw[O];exact below3 m (Nat.le_refl _) _ _ _⟩);rw[O];exact own_base (oQ (oQ (oQ U.o (by show w.heap.size<_;omega) _) (by show w.heap.size<_;omega) _) (by show w.heap.size<_;omega) _) (by omega)
set_option maxHeartbeats 4000000
set_option maxRecDepth 100000
theorem Gq {w:World} {ad:Addr} {cs:List Value} (a:cs.length=23) (b:∀ j u,cs[j]?=some u->w.cell? (ad.add j)=some u):(Df 110 (aR (some ad))).run Tryz.prog w = .ok (.agg cs.toArray) w:=
 yh Tryz.underlying110 rfl (by rw[a];kernel_rfl) b
theorem Ot {w:World} {cs:List Value} (a:cs.length=23) (b:∀ v∈cs,v.oneCell'=true):(JB 110 (aR (some ⟨w.heap.size,0,none⟩)) (.agg cs.toArray)).run Tryz.prog (w.alloc (.cells #[aD aE 0,aL ⟨#[]⟩,aM none 0 0,aM none 0 0,aM none 0 0,aW false,aM none 0 0,aL ⟨#[]⟩,aD aE 0,aD aE 0,aD aE 0,aD aE 0,aL ⟨#[]⟩,aM none 0 0,aW false,aM none 0 0,aW false,aM none 0 0,aM none 0 0,aD aE 0,aD aE 0,aD aE 0,aM none 0 0] 110 (0,0))) = .ok () (w.alloc (.cells cs.toArray 110 (0,0))):=
 yj (by rw[show cs.toArray.size=23 from a];kernel_rfl) (show 23=cs.toArray.size from a.symm) (by rw[<- Array.all_toList];exact be.2 b)
theorem nI {w:World} {g:Nat} {T:TypeId} {cs:List Value} (h:ah w g T cs.toArray):∀ j u,cs[j]?=some u->w.cell? ((⟨g,0,none⟩:Addr).add j)=some u:=λ j u a=>by
 have e:(⟨g,0,none⟩:Addr).add j=⟨g,j,none⟩:=by unfold Addr.add;split <;> simp_all
 rw[e,h.cell j];simpa using a
theorem Gs (cs:List Value) (k:Int) (j:cs.length=23) (d:cs[0]?=some (aD aE k)) (w:World) :
  IE 109 #[.agg cs.toArray] w (aW (decide (k=4) || decide (k=5))):=by
 obtain⟨W,a⟩:=aC (w.alloc (.cells cs.toArray 110 (0,0)));have c:IY w W:=a▸az w _;have i:W.cell? ⟨w.heap.size,0,none⟩=some (aD aE k):=by
  have B:ah W w.heap.size 110 cs.toArray:=a▸ah.new w _ _;rw[B.cell 0];simpa using d
 clear d;by_cases h4:k=4
 .subst h4;go_enter Tryz.func109,Tryz.ntmps109;go_upto_region 1 with (fail);rw[<- a];clear a;go_wp2;go_ret;exact⟨rfl,c⟩
 .have g:(k == 4)=false:=by simp[h4]
  obtain⟨b,f⟩:=af ((k == 5));have h:=qh (show (decide (k=4) || decide (k=5))=b by rw[decide_eq_false h4,<- f];by_cases h5:k=5 <;> simp[h5]);rw[h.o];clear h4;go_enter Tryz.func109,Tryz.ntmps109;go_upto_region 1 with (fail);rw[<- a];clear a;go_wp2;go_ret;exact⟨rfl,c⟩
theorem Ou {N:List aj} {K:bu} {keep:Nat->Bool} {k:Nat} (a:k<N.length):di N K keep (k+1)=if (vT N[k] && keep k)=true then di N K keep k ++ [lh K N[k]] else di N K keep k:=by
 unfold di;rw[List.range_succ,bg,bh,bi,bj];simp only[jy a];split
 .simp[jy a]
 .simp
theorem zu {N:List aj} {K:bu} {keep:Nat->Bool} (k:Nat):(di N K keep k).length<=k:=by
 unfold di;rw[bk];exact Nat.le_trans (bl _ _) (by simp)
theorem Ov:(Tryz.prog.info? 51).map (λ i=>(i.zero,i.size,i.bytes))=some (some (.agg #[.string ⟨#[]⟩,.int .i64 0,.slice none 0 0]),3,48):=by kernel_rfl
theorem JE {w:World} {B0 gb m1 m2 m3:Nat} {x:nM} {f:bC} {N:List aj} {K:bu} (h:bF w B0 gb m1 m2 m3 x f N K) (M:FuncId) (U:Array Value) (UX:∀ (a:Array Value) (W:World),(callFunc M a).run Tryz.prog W = .ok (.enter M a) W) (keep:Nat->Bool)
  (Y:∀ (i:Nat) (w':World),i<N.length->IY w w'->IE M (#[aD aE i] ++ U) w' (aW (keep i))) :
  Calls Tryz.prog 67 #[aR (some ⟨gb,0,none⟩),.func (.func M) #[] U] w λ e w'=>(∃ v,e = a3 v/\wC 51 3 vV w' w.heap.size v (di N K keep N.length))/\IY w w':=by
 obtain⟨i0,ab,am,ao,ac⟩:=info_parts Ov;have av:=h.cap;have wB:=h.nodes.1;have c5:w.cell? ⟨gb,5,none⟩=some (aM x.AN N.length x.cn):=h.blk.cell 5;have kX:=qh h;have ae:=qh Y;obtain⟨AN,TC⟩:=af (x.AN);have ap:=qh TC;rw[TC] at c5;clear h Y TC;go_enter Tryz.func67,Tryz.ntmps67;go_wp2;clear c5;go_loopw [13,5] (λ i v wr=>∃ k:Nat,i = aD aE k/\k<=N.length/\wC 51 3 vV wr w.heap.size v (di N K keep k)/\IY w wr) (λ i _ _=>302 - (intOf i).toNat)
 case atStart=>exact⟨0,rfl,Nat.zero_le _,wC.nil,Below.refl _ _⟩
 case round =>
  obtain⟨k,rfl,hk,t,hb⟩:=hrel;have t:=qh t;have hs:=hb.size;by_cases hlt:k<N.length
  .have Dh:=qh (kX.o.keep hb);obtain⟨ad,A1,c1,A2,c2,A3,c3,A4,c4,A5,c5,B1,b1,B2,b2,B3,b3,A,c,hA,Lr,hit,ak,hc⟩:=Dh.o.pI hlt;obtain rfl:AN=some ad:=ap.o.symm.trans hA;obtain⟨d,hd⟩:=af (N[k]);have n:=qh (Ou (K:=K) (keep:=keep) hlt);rw[hd] at hc n;obtain⟨cs,q⟩:∃ cs:List Value,[aD aE d.it.k,aL d.it.nm,aM A1 d.it.iff.length c1,aM A2 d.it.ph.length c2,aM A3 d.it.items.length c3,aW d.it.sh,aM A4 d.it.cnt.length c4,aL d.it.over,aD aE d.it.ans.k,aD aE d.it.ans.lo,aD aE d.it.ans.hi,aD aE d.it.ans.pl,aL d.it.ans.ls,aM B1 d.it.ans.only.length b1,aW d.it.ans.sh,aM B2 d.it.ans.rs.length b2,aW d.it.ans.need,aM B3 d.it.ans.ch.length b3,aM A5 d.it.cmp.length c5,aD aE d.par,aD aE d.mZ,aD aE d.eQ,aM A d.lo.length c]=cs:=⟨_,rfl⟩;have Q:cs.length=23:=by subst q;rfl
   have X:cs[0]?=some (aD aE d.it.k):=by subst q;rfl
   have Ls:=Gq (w:=wr) Q (ad:=ad.add (k*23)) (λ j u hu=>hc j u (by subst q;exact hu));have QS:=Ot (w:=wr) Q (by subst q;simp[a6]);obtain⟨W,hW⟩:=aC (wr.alloc (.cells cs.toArray 110 (0,0)));have H:IY wr W:=hW▸az wr _;have m:=hb.trans (H.mono hs);have aw:(Df 110 (aR (some ⟨wr.heap.size,0,none⟩))).run Tryz.prog W = .ok (.agg cs.toArray) W:=Gq Q (nI (hW▸ah.new wr _ _:ah W wr.heap.size 110 cs.toArray));have P:=qh (Gs cs d.it.k Q X W);have V:=qh (show (decide (d.it.k=4) || decide (d.it.k=5))=vT d from rfl);rw[V.o] at P;have HD:=qh hd;clear q Q X hit ak hc Lr Dh hA hd;go_upto_region 5 with (fail);rw[<- hW];clear Ls QS hW;obtain⟨b1,B⟩:=af (vT d);obtain⟨b2,D⟩:=af (keep k);have G:=qh (λ w' C=>ae.o k w' hlt C);rw[D] at G;rw[B] at P;rw[B,D] at n;have O:=qh hlt;have UY:=qh (λ w' C=>JD (kX.o.keep (w':=w') C) k hlt);rw[show N[k]=d from HD.o] at UY;clear B D V;cases b1
   .have F:=qh (n.o.trans (if_neg (by simp)));go_wp2_with (go_at_call 109;(with_reducible refine P.o.mono ?_);rintro e1 w1 ⟨rfl,b⟩);go_roundw
    case rel=>exact⟨k+1,by go_num,O.o,by rw[F.o];exact t.o.keep gZ (H.trans (b.mono H.size)),m.trans (b.mono m.size)⟩
    case measure =>
     have:=O.o;simp[intOf];omega
   .cases b2
    .have F:=qh (n.o.trans (if_neg (by simp)));go_wp2_with (first
      | (go_at_call 109;(with_reducible refine P.o.mono ?_);rintro e1 w1 ⟨rfl,b⟩;have E:=m.trans (b.mono m.size))
      | (go_at_fn M;(with_reducible refine (G.o _ E).mono ?_);rintro e2 w2 ⟨rfl,o⟩))
     go_roundw
     case rel=>exact⟨k+1,by go_num,O.o,by rw[F.o];exact (t.o.keep gZ (H.trans (b.mono H.size))).keep gZ o,E.trans (o.mono E.size)⟩
     case measure =>
      have:=O.o;simp[intOf];omega
    .have F:=qh (n.o.trans (if_pos (by simp)));go_upto_region 6 with (first
      | (go_at_call 109;(with_reducible refine P.o.mono ?_);rintro e1 w1 ⟨rfl,b⟩;have E:=m.trans (b.mono m.size))
      | (go_at_fn M;(with_reducible refine (G.o _ E).mono ?_);rintro e2 w2 ⟨rfl,o⟩))
     have l:=E.trans (o.mono E.size);have J:=(t.o.keep gZ (H.trans (b.mono H.size))).keep gZ o;have ar:=zu (N:=N) (K:=K) (keep:=keep) k;obtain⟨L,hL⟩:=af (di N K keep k);rw[hL] at J F ar;have IG:=qh J;obtain⟨r,T⟩:=af (lh K d);rw[T] at UY F;clear hL T J t;go_upto_region 7 with (first
      | (go_at_call 110;(with_reducible refine (UY.o _ l).mono ?_);rintro e3 w3 ⟨⟨ax,rfl,A9,c9,rfl,Ye⟩,R⟩;have y:=l.trans (R.mono l.size);obtain⟨xs,z,S⟩:=IG.o.keep gZ R;have an:=y.size;have UZ:=qh S;have Z:=qh Ye;have EC:=qh z;have OV:=z.alloc (.cells #[aL r.nm,aD aE r.kind,aM A9 r.loops.length c9] 51 (0,0));clear z S Ye)
      | (at_builtin;refine wpList_append_own _ rfl _ _ 40 rfl w.heap.size 51 i0 (.agg #[.string ⟨#[]⟩,.int .i64 0,.slice none 0 0]) 3 48 Tryz.underlying40 ab am ao ac rfl (by decide) _ _ _ rfl OV ⟨w3.heap.size,0,none⟩ 1 1 [.string r.nm,.int .i64 r.kind,.slice A9 r.loops.length c9] rfl rfl (by intro j u s;match j,s with | 0,s=>(cases s;simp[go_sem]) | 1,s=>(cases s;simp[go_sem]) | 2,s=>(cases s;simp[go_sem]) | j+3,s=>simp at s) (by simp[a6]) (by unfold maxLen;omega) (by omega) (by first | omega | (simp;omega)) ?_;intro v4 w4 p I _))
     have Ep:=az w3 (.cells #[aL r.nm,aD aE r.kind,aM A9 r.loops.length c9] 51 (0,0));have aa:=wC.snoc gZ (d:=r) OV (λ i hi=>gZ.later (UZ.o i hi) Ep) (gZ.later ⟨A9,c9,rfl,own_base Z.o.1 l.size,Z.o.2⟩ Ep) rfl p I;have al:IY w w4:=(y.trans (Ep.mono an)).grown I (by simp;omega) (λ g hg=>(OV.lt g hg).1);have Af:=qh aa;clear aa OV p I;go_wp2;go_roundw
     case rel=>exact⟨k+1,by go_num,O.o,by rw[F.o];exact Af.o,al⟩
     case measure =>
      have:=O.o;simp[intOf];omega
  .have e:k=N.length:=by omega
   subst e;have t:=qh t.o;go_wp2;go_ret;exact⟨⟨_,rfl,t.o⟩,hb⟩
set_option maxHeartbeats 4000000
set_option maxRecDepth 100000
theorem Ox {N:List aj} {k:Nat} (a:k<N.length):bY (N.take (k+1))=if N[k].it.k=3 then bY (N.take k) ++ [⟨N[k].it.nm,N[k].lo⟩] else bY (N.take k):=by
 unfold bY;rw[List.take_succ_eq_append_getElem a,bg,bh,bi,bj];by_cases h:N[k].it.k=3
 .rw[if_pos h,if_pos (by simpa using h)];rfl
 .rw[if_neg h,if_neg (by simpa using h)];simp
theorem zx {N:List aj} (k:Nat):(bY (N.take k)).length<=k:=by
 unfold bY;rw[bk];exact Nat.le_trans (bl _ _) (by rw[List.length_take];omega)
theorem Yf:(Tryz.prog.info? 184).map (λ i=>(i.zero,i.size,i.bytes))=some (some (.agg #[.string ⟨#[]⟩,.slice none 0 0]),2,40):=by kernel_rfl
theorem JF {w:World} {B0 gb m1 m2 m3:Nat} {x:nM} {f:bC} {N:List aj} {K:bu} (h:bF w B0 gb m1 m2 m3 x f N K) :
  Calls Tryz.prog 69 #[aR (some ⟨gb,0,none⟩)] w λ e w'=>(∃ v,e = a3 v/\wC 184 2 xw w' w.heap.size v (bY N))/\IY w w':=by
 obtain⟨i0,aa,ae,am,ab⟩:=info_parts Yf;have ap:=h.cap;have wB:=h.nodes.1;have Y:w.cell? ⟨gb,5,none⟩=some (aM x.AN N.length x.cn):=h.blk.cell 5;have kX:=qh h;obtain⟨AN,TC⟩:=af (x.AN);have an:=qh TC;rw[TC] at Y;clear h TC;go_enter Tryz.func69,Tryz.ntmps69;go_wp2;clear Y;go_loopw [11,3] (λ i v wr=>∃ k:Nat,i = aD aE k/\k<=N.length/\wC 184 2 xw wr w.heap.size v (bY (N.take k))/\IY w wr) (λ i _ _=>302 - (intOf i).toNat)
 case atStart=>exact⟨0,rfl,Nat.zero_le _,by rw[List.take_zero];exact wC.nil,Below.refl _ _⟩
 case round =>
  obtain⟨k,rfl,hk,q,T⟩:=hrel;have q:=qh q;have hs:=T.size;by_cases hlt:k<N.length
  .have Dh:=qh (kX.o.keep T);obtain⟨ad,A1,c1,A2,c2,A3,c3,A4,c4,A5,Y,B1,b1,B2,b2,B3,b3,A,c,hA,Lr,hit,y,hc⟩:=Dh.o.pI hlt;obtain rfl:AN=some ad:=an.o.symm.trans hA;obtain⟨d,hd⟩:=af (N[k]);have z:=qh (Ox hlt);rw[hd] at hc z y hit;have G:d.it.nm.size<=maxLen:=by cases hit;assumption
   obtain⟨cs,l⟩:∃ cs:List Value,[aD aE d.it.k,aL d.it.nm,aM A1 d.it.iff.length c1,aM A2 d.it.ph.length c2,aM A3 d.it.items.length c3,aW d.it.sh,aM A4 d.it.cnt.length c4,aL d.it.over,aD aE d.it.ans.k,aD aE d.it.ans.lo,aD aE d.it.ans.hi,aD aE d.it.ans.pl,aL d.it.ans.ls,aM B1 d.it.ans.only.length b1,aW d.it.ans.sh,aM B2 d.it.ans.rs.length b2,aW d.it.ans.need,aM B3 d.it.ans.ch.length b3,aM A5 d.it.cmp.length Y,aD aE d.par,aD aE d.mZ,aD aE d.eQ,aM A d.lo.length c]=cs:=⟨_,rfl⟩;have rO:cs.length=23:=by subst l;rfl
   have Ls:=Gq (w:=wr) rO (ad:=ad.add (k*23)) (λ j u hu=>hc j u (by subst l;exact hu));have QS:=Ot (w:=wr) rO (by subst l;simp[a6]);obtain⟨W,V⟩:=aC (wr.alloc (.cells cs.toArray 110 (0,0)));have J:IY wr W:=V▸az wr _;have m:=T.trans (J.mono hs);have I:ah W wr.heap.size 110 cs.toArray:=V▸ah.new wr _ _;have q0:W.cell? ⟨wr.heap.size,0,none⟩=some (aD aE d.it.k):=by rw[I.cell 0];subst l;rfl
   have q1:W.cell? ⟨wr.heap.size,1,none⟩=some (aL d.it.nm):=by rw[I.cell 1];subst l;rfl
   have C:W.cell? ⟨wr.heap.size,22,none⟩=some (aM A d.lo.length c):=by rw[I.cell 22];subst l;rfl
   have HQ:=qh (show cs.toArray[1]?=some (aL d.it.nm)/\cs.toArray[22]?=some (aM A d.lo.length c) by subst l;exact⟨rfl,rfl⟩);have Z:=qh hlt;have O:=qh (a4 y G);have S:=qh I;clear l rO hit y hc Lr Dh hA hd G;clear I;go_upto_region 5 with (fail);rw[<- V];clear Ls QS V;by_cases h3:d.it.k=3
   .have ak:(d.it.k == 3)=true:=by simp[h3]
    have X:=qh (z.o.trans (if_pos h3));have ao:=zx (N:=N) k;obtain⟨L,hL⟩:=af (bY (N.take k));rw[hL] at X ao q;have IG:=qh (q.o.keep oz J);clear h3 hL q;go_upto_region 6 with (fail);have r:=Below.refl W.heap.size W;have al:=m.size;obtain⟨xs,o,E⟩:=IG.o;have HX:=qh (a4 o E);have K1:=qh (show ∀ w',IY W w'->Calls Tryz.prog 38 #[aM A d.lo.length c] w' λ e R=>∃ v,e = a3 v/\R.ownsRow W.heap.size 9 1 v d.lo.length (jq d.lo)/\IY W R from λ w' b =>
     (cloneS d.lo A c wr.heap.size w' (O.o.1.1.1.below ((J.trans (b.mono J.size)))) (by have:=O.o.1.2;omega)).mono λ _ _ ⟨v,he,ho,hk⟩=>⟨v,he,own_base ho b.size,b.trans (hk.mono b.size)⟩)
    have U:=qh (show ∀ w',IY W w'->w'.cell? ⟨wr.heap.size,1,none⟩=some (aL d.it.nm)/\w'.cell? ⟨wr.heap.size,22,none⟩=some (aM A d.lo.length c)/\IY w w' from λ w' b=>⟨Below.cell_of b q1,Below.cell_of b C,m.trans (b.mono m.size)⟩);clear q0 q1 C o E;go_region_held3 (λ w'=>w'.cell? ⟨wr.heap.size,1,none⟩=some (aL d.it.nm)/\w'.cell? ⟨wr.heap.size,22,none⟩=some (aM A d.lo.length c)/\IY w w')
     (first | exact U.o _ r | exact U.o _ r.drew | exact U.o _ a | exact U.o _ (a.alloc a.size _) | exact P)
     (first
      | (go_at_call 38;(with_reducible refine (K1.o _ r.drew).mono ?_);rintro e1 w1 ⟨v,rfl,H,a⟩;obtain⟨D,F,rfl⟩:=iU H;have o:=dm HX.o.1 a;have Q:=o.alloc (.cells #[aL d.it.nm,aM D d.lo.length F] 184 (0,0)))
      | (refine step_append_lies _ rfl _ _ 41 rfl w.heap.size 184 i0 (.agg #[.string ⟨#[]⟩,.slice none 0 0]) 2 40 Tryz.underlying41 aa ae am ab rfl (by decide) _ L.length xs rfl Q ⟨w1.heap.size,0,none⟩ 1 1 [.string d.it.nm,.slice D d.lo.length F] rfl rfl (by intro j u t;match j,t with | 0,t=>(cases t;simp[go_sem]) | 1,t=>(cases t;simp[go_sem]) | j+2,t=>simp at t) (by simp[a6]) (by decide) (by unfold maxLen;omega) (by omega) (by have:=a.size;simp;omega) _ rfl ?_;intro g4 aq w4 n p _ _;have B:=((S.o.below a S.o.lt).alloc (.cells #[.string d.it.nm,.slice D d.lo.length F] 184 (0,0))).grown p (λ e=>qg Q ((S.o.below a S.o.lt).alloc _) (by decide) e.symm);have P:w4.cell? ⟨wr.heap.size,1,none⟩=some (.string d.it.nm)/\w4.cell? ⟨wr.heap.size,22,none⟩=some (.slice A d.lo.length c)/\IY w w4:=⟨(B.cell 1).trans HQ.o.1,(B.cell 22).trans HQ.o.2,((m.trans (a.mono m.size)).alloc (by have:=a.size;omega) _).grown p (by have:=a.size;simp;omega) (λ g hg=>(Q.lt g hg).1)⟩))
    all_goals
     have Ep:=az w1 (.cells #[aL d.it.nm,aM D d.lo.length F] 184 (0,0));have M:=wC.snoc oz (d:=(⟨d.it.nm,d.lo⟩:aQ)) Q (λ i hi=>oz.later (oz.later (HX.o.2 i hi) a) Ep) (oz.later ⟨D,F,rfl,own_base H al,O.o.2,by have:=O.o.1.2;show d.lo.length<=maxLen;unfold maxLen;omega,λ s hs=>O.o.1.1.2.2.2 s hs⟩ Ep) rfl n p;have Af:=qh M;have ac:=P.2.2;clear M Q n p B;go_wp2;go_roundw
     case rel=>exact⟨k+1,by go_num,Z.o,by rw[X.o];exact Af.o,ac⟩
     case measure =>
      have:=Z.o;simp[intOf];omega
   .have ak:(d.it.k == 3)=false:=by simp[h3]
    have X:=qh (z.o.trans (if_neg h3));clear h3;go_wp2;go_roundw
    case rel=>exact⟨k+1,by go_num,Z.o,by rw[X.o];exact q.o.keep oz J,m⟩
    case measure =>
     have:=Z.o;simp[intOf];omega
  .have e:k=N.length:=by omega
   subst e;rw[List.take_length] at q;go_wp2;go_ret;exact⟨⟨_,rfl,q.o⟩,T⟩
set_option maxHeartbeats 4000000
set_option maxRecDepth 100000
theorem jk {a c:Int} (h:a=c):(a == c)=true/\(a != c)=false:=by simp[h]
theorem fU {a c:Int} (h:¬ a=c):(a == c)=false/\(a != c)=true:=by simp[h]
theorem akj {n:Nat} (h:n=0):((n:Int) == 0)=true/\((n:Int) != 0)=false:=by simp[h]
theorem akk {n:Nat} (h:¬ n=0):((n:Int) == 0)=false/\((n:Int) != 0)=true:=by simp[h]
theorem akl {n:Nat} (h:n=1):((n:Int) == 1)=true/\((n:Int) != 1)=false:=by simp[h]
theorem akm {n:Nat} (h:¬ n=1):((n:Int) == 1)=false/\((n:Int) != 1)=true:=⟨beq_eq_false_iff_ne.2 (by omega),bne_iff_ne.2 (by omega)⟩
theorem akn {n:Nat} (h:0<n):0<n/\0<(n:Int)/\decide (0<(n:Int))=true:=⟨h,by omega,decide_eq_true (by omega)⟩
theorem ako {n:Nat} (h:¬ 0<n):¬ 0<n/\¬ 0<(n:Int)/\decide (0<(n:Int))=false:=⟨h,by omega,decide_eq_false (by omega)⟩
theorem akp {n:Nat} (h:1<n):1<n/\1<(n:Int)/\decide (1<(n:Int))=true:=⟨h,by omega,decide_eq_true (by omega)⟩
theorem akq {n:Nat} (h:¬ 1<n):¬ 1<n/\¬ 1<(n:Int)/\decide (1<(n:Int))=false:=⟨h,by omega,decide_eq_false (by omega)⟩
theorem Gu {s:ByteArray}:s.toList = [] ↔ s=⟨#[]⟩:=by
 rw[ByteArray.toList_eq];exact⟨λ h=>ByteArray.ext (Array.toList_eq_nil_iff.1 h),λ h=>by rw[h]⟩
theorem ahd {s:ByteArray}:s.toList.isEmpty=decide (s=⟨#[]⟩):=by
 rw[Bool.eq_iff_iff,List.isEmpty_iff,Gu,decide_eq_true_iff]
theorem aeH {s:ByteArray} (h:s=⟨#[]⟩):s.toList.isEmpty=true/\s.toList = []:=⟨by rw[ahd];simp[h],Gu.2 h⟩
theorem aeI {s:ByteArray} (h:¬ s=⟨#[]⟩):s.toList.isEmpty=false/\¬ s.toList = []:=⟨by rw[ahd];simp[h],λ e=>h (Gu.1 e)⟩
theorem yF (a c:Int):(a=c/\(a == c)=true/\(a != c)=false)\/(¬ a=c/\(a == c)=false/\(a != c)=true):=(a7 (a=c)).elim (λ h=>.inl ⟨h,jk h⟩) (λ h=>.inr ⟨h,fU h⟩)
theorem Yg (n:Nat):(n=0/\((n:Int) == 0)=true/\((n:Int) != 0)=false)\/(¬ n=0/\((n:Int) == 0)=false/\((n:Int) != 0)=true):=(a7 (n=0)).elim (λ h=>.inl ⟨h,akj h⟩) (λ h=>.inr ⟨h,akk h⟩)
theorem Gv (s:ByteArray):(s=⟨#[]⟩/\s.toList.isEmpty=true/\s.toList = [])\/(¬ s=⟨#[]⟩/\s.toList.isEmpty=false/\¬ s.toList = []):=(a7 (s=⟨#[]⟩)).elim (λ h=>.inl ⟨h,aeH h⟩) (λ h=>.inr ⟨h,aeI h⟩)
theorem U0 {w:World} {a:rG} {B1:Option Addr} {b1:Nat} {B2:Option Addr} {b2:Nat} {B3:Option Addr} {b3:Nat} :
  IE 170 #[.agg (CS a B1 b1 B2 b2 B3 b3)] w (aW (Oh a)):=by
 obtain⟨W,h⟩:=aC (w.alloc (.cells (CS a B1 b1 B2 b2 B3 b3) 57 (0,0)));have z:IY w W:=h▸az w _;have b:ah W w.heap.size 57 (CS a B1 b1 B2 b2 B3 b3):=h▸ah.new w _ _;have V:W.cell? ⟨w.heap.size,0,none⟩=some (aD aE a.k):=b.cell 0;have q1:W.cell? ⟨w.heap.size,1,none⟩=some (aD aE a.lo):=b.cell 1;have Y:W.cell? ⟨w.heap.size,2,none⟩=some (aD aE a.hi):=b.cell 2;have S:W.cell? ⟨w.heap.size,3,none⟩=some (aD aE a.pl):=b.cell 3;have U:W.cell? ⟨w.heap.size,4,none⟩=some (aL a.ls):=b.cell 4;have X:W.cell? ⟨w.heap.size,5,none⟩=some (aM B1 a.only.length b1):=b.cell 5;have Q:W.cell? ⟨w.heap.size,6,none⟩=some (aW a.sh):=b.cell 6;have T:W.cell? ⟨w.heap.size,7,none⟩=some (aM B2 a.rs.length b2):=b.cell 7;have R:W.cell? ⟨w.heap.size,8,none⟩=some (aW a.need):=b.cell 8;have Z:W.cell? ⟨w.heap.size,9,none⟩=some (aM B3 a.ch.length b3):=b.cell 9;clear b;go_enter Tryz.func170,Tryz.ntmps170;go_upto_region 1 with (fail);rw[<- h];clear h;obtain⟨u,c⟩:=af (a.sh);have m:=qh c;rw[c] at Q;clear c;obtain⟨i,d⟩:=af (a.need);have j:=qh d;rw[d] at R;clear d;generalize P:a.only.length=n5 at *;have M:=qh P;clear P;generalize f:a.rs.length=n7 at *;have D:=qh f;clear f;generalize g:a.ch.length=n9 at *;have t:=qh g;clear g;rcases yF a.k 0 with ⟨r,O,I⟩ | ⟨r,O,I⟩;rcases yF a.lo 0 with ⟨l,A,n⟩ | ⟨l,A,n⟩;rcases yF a.hi 0 with ⟨F,B,K⟩ | ⟨F,B,K⟩;rcases yF a.pl 0 with ⟨H,L,q⟩ | ⟨H,L,q⟩;rcases Gv a.ls with ⟨o,N,x⟩ | ⟨o,N,x⟩;rcases Yg n5 with ⟨v,k,s⟩ | ⟨v,k,s⟩;cases u;rcases Yg n7 with ⟨J,p,y⟩ | ⟨J,p,y⟩;cases i;rcases Yg n9 with ⟨E,C,G⟩ | ⟨E,C,G⟩;rotate_left;rotate_left;rotate_left;rotate_left;rotate_left;rotate_left;rotate_left;rotate_left;rotate_left;rotate_left;rotate_left
 all_goals
  first
   | (exfalso;omega)
   | (go_wp2;go_ret;refine⟨au ?_,z⟩;unfold Oh;simp[m.o,j.o,M.o,D.o,t.o, *] <;> omega)
theorem Oy (k:Int) (w:World):KG 171 #[aD aE k] w (.tuple #[aD aE (IW k).1,aD aE (IW k).2]):=by
 by_cases h2:k=2
 .subst h2;go_enter Tryz.func171,Tryz.ntmps171;go_wp2;go_ret2;exact⟨rfl,rfl⟩
 have f:(k == 2)=false:=by simp[h2]
 by_cases h6:k=6
 .subst h6;go_enter Tryz.func171,Tryz.ntmps171;go_wp2;go_ret2;exact⟨rfl,rfl⟩
 have b:(k == 6)=false:=by simp[h6]
 by_cases h3:k=3
 .subst h3;go_enter Tryz.func171,Tryz.ntmps171;go_wp2;go_ret2;exact⟨rfl,rfl⟩
 have c:(k == 3)=false:=by simp[h3]
 by_cases h5:k=5
 .subst h5;go_enter Tryz.func171,Tryz.ntmps171;go_wp2;go_ret2;exact⟨rfl,rfl⟩
 have d:(k == 5)=false:=by simp[h5]
 have a:=qh (show IW k=(0,0) by unfold IW;rw[if_neg h2,if_neg h6,if_neg h3,if_neg h5]);clear h2 h6 h3 h5;go_enter Tryz.func171,Tryz.ntmps171;go_wp2;go_ret2;rw[a.o];exact⟨rfl,rfl⟩
theorem U1 {w:World} {a:rG} {B1:Option Addr} {b1:Nat} {B2:Option Addr} {b2:Nat} {B3:Option Addr} {b3:Nat} :
  IE 172 #[.agg (CS a B1 b1 B2 b2 B3 b3)] w (aW (Tt a)):=by
 obtain⟨W,y⟩:=aC (w.alloc (.cells (CS a B1 b1 B2 b2 B3 b3) 57 (0,0)));have D:IY w W:=y▸az w _;have i:ah W w.heap.size 57 (CS a B1 b1 B2 b2 B3 b3):=y▸ah.new w _ _;have N:W.cell? ⟨w.heap.size,0,none⟩=some (aD aE a.k):=i.cell 0;have S:W.cell? ⟨w.heap.size,1,none⟩=some (aD aE a.lo):=i.cell 1;have P:W.cell? ⟨w.heap.size,2,none⟩=some (aD aE a.hi):=i.cell 2;have K:W.cell? ⟨w.heap.size,3,none⟩=some (aD aE a.pl):=i.cell 3;have M:W.cell? ⟨w.heap.size,4,none⟩=some (aL a.ls):=i.cell 4;have O:W.cell? ⟨w.heap.size,5,none⟩=some (aM B1 a.only.length b1):=i.cell 5;have J:W.cell? ⟨w.heap.size,6,none⟩=some (aW a.sh):=i.cell 6;have L:W.cell? ⟨w.heap.size,7,none⟩=some (aM B2 a.rs.length b2):=i.cell 7;have Q:W.cell? ⟨w.heap.size,8,none⟩=some (aW a.need):=i.cell 8;have R:W.cell? ⟨w.heap.size,9,none⟩=some (aM B3 a.ch.length b3):=i.cell 9;clear i;go_enter Tryz.func172,Tryz.ntmps172;go_upto_region 1 with (fail);rw[<- y];clear y;obtain⟨x,l⟩:=af (a.sh);have z:=qh l;rw[l] at J;clear l;generalize I:a.only.length=n5 at *;have H:=qh I;clear I;rcases yF a.k 4 with ⟨A,B,F⟩ | ⟨A,B,F⟩;rcases yF a.pl 0 with ⟨g,h,b⟩ | ⟨g,h,b⟩;rcases yF a.lo 0 with ⟨k,r,m⟩ | ⟨k,r,m⟩;rcases yF a.hi 0 with ⟨t,s,u⟩ | ⟨t,s,u⟩;rotate_left;rotate_left;rotate_left;rcases yF a.k 2 with ⟨d,f,c⟩ | ⟨d,f,c⟩;rcases yF a.lo 0 with ⟨k,r,m⟩ | ⟨k,r,m⟩;rcases yF a.hi 0 with ⟨t,s,u⟩ | ⟨t,s,u⟩;rotate_left;rotate_left;rotate_left;rotate_left;rcases yF a.k 5 with ⟨C,G,E⟩ | ⟨C,G,E⟩;rcases yF a.pl 0 with ⟨g,h,b⟩ | ⟨g,h,b⟩;rotate_left;rcases yF a.k 2 with ⟨d,f,c⟩ | ⟨d,f,c⟩;rotate_left;rotate_left;rcases yF a.pl 0 with ⟨g,h,b⟩ | ⟨g,h,b⟩;rcases Gv a.ls with ⟨n,v,q⟩ | ⟨n,v,q⟩;rcases Yg n5 with ⟨p,j,o⟩ | ⟨p,j,o⟩;cases x;rotate_left;rotate_left;rotate_left;rotate_left;rcases yF a.k 2 with ⟨d,f,c⟩ | ⟨d,f,c⟩;rcases Gv a.ls with ⟨n,v,q⟩ | ⟨n,v,q⟩;rcases Yg n5 with ⟨p,j,o⟩ | ⟨p,j,o⟩;cases x;rotate_left;rotate_left;rotate_left;rotate_left;rotate_left
 all_goals
  first
   | (exfalso;omega)
   | (go_wp2;go_ret;refine⟨au ?_,D⟩;unfold Tt;simp[z.o,H.o, *] <;> omega)
set_option maxHeartbeats 4000000
set_option maxRecDepth 100000
theorem wE (n:Nat):(¬ 0<n/\¬ 0<(n:Int)/\decide (0<(n:Int))=false)\/(0<n/\0<(n:Int)/\decide (0<(n:Int))=true):=(Nat.lt_or_ge 0 n).elim (λ h=>.inr (akn h)) (λ h=>.inl (ako (by omega)))
theorem QT (n:Nat):(¬ 1<n/\¬ 1<(n:Int)/\decide (1<(n:Int))=false)\/(1<n/\1<(n:Int)/\decide (1<(n:Int))=true):=(Nat.lt_or_ge 1 n).elim (λ h=>.inr (akp h)) (λ h=>.inl (akq (by omega)))
theorem akt (n:Nat):(n=1/\((n:Int) == 1)=true/\((n:Int) != 1)=false)\/(¬ n=1/\((n:Int) == 1)=false/\((n:Int) != 1)=true):=(a7 (n=1)).elim (λ h=>.inl ⟨h,akl h⟩) (λ h=>.inr ⟨h,akm h⟩)
theorem yl {w:World} {ad:Addr} {cs:List Value} (a:cs.length=10) (b:∀ j u,cs[j]?=some u->w.cell? (ad.add j)=some u):(Df 57 (aR (some ad))).run Tryz.prog w = .ok (.agg cs.toArray) w:=
 yh Tryz.underlying57 rfl (by rw[a];kernel_rfl) b
theorem xx {w:World} {g k:Nat} {T:TypeId} {c:Array Value} (h:ah w g T c) {cs:List Value} (b:∀ j u,cs[j]?=some u->c[k+j]?=some u):∀ j u,cs[j]?=some u->w.cell? ((⟨g,k,none⟩:Addr).add j)=some u:=by
 intro j u a;rw[show (⟨g,k,none⟩:Addr).add j=⟨g,k+j,none⟩ by cases j <;> rfl,h.cell];exact b j u a
theorem U2 {w:World} {B:Nat} {x:ItemD} {A1:Option Addr} {R:Nat} {Y:Option Addr} {Z:Nat} {P:Option Addr} {Q:Nat} {V:Option Addr} {O:Nat} {A5:Option Addr} {c5:Nat} {B1:Option Addr} {b1:Nat} {B2:Option Addr} {b2:Nat} {B3:Option Addr} {b3:Nat} (hx:gY w B x [aD aE x.k,aL x.nm,aM A1 x.iff.length R,aM Y x.ph.length Z,aM P x.items.length Q,aW x.sh,aM V x.cnt.length O,aL x.over,aD aE x.ans.k,aD aE x.ans.lo,aD aE x.ans.hi,aD aE x.ans.pl,aL x.ans.ls,aM B1 x.ans.only.length b1,aW x.ans.sh,aM B2 x.ans.rs.length b2,aW x.ans.need,aM B3 x.ans.ch.length b3,aM A5 x.cmp.length c5]) (hk:1<=x.k/\x.k<=6) :
  IE 115 #[.agg (Ce x A1 R Y Z P Q V O B1 b1 B2 b2 B3 b3 A5 c5)] w (aW (yM x)):=by
 obtain⟨l2,l6,ad,l4,l3⟩:x.iff.length<=maxLen/\x.cnt.length<=maxLen/\x.cmp.length<=maxLen/\x.items.length<=maxLen/\x.ph.length<=maxLen:=by
  cases hx with
  | mk h1 h2 h4 h5 ha l1 l3 l4 l5 l6 l7 l8 hr hi=>exact⟨h1.1,h4.1,h5.1,l8,h2.2.2.1⟩
 obtain⟨W,hW⟩:=aC (w.alloc (.cells (Ce x A1 R Y Z P Q V O B1 b1 B2 b2 B3 b3 A5 c5) 59 (0,0)));have v:IY w W:=hW▸az w _;have a:ah W w.heap.size 59 (Ce x A1 R Y Z P Q V O B1 b1 B2 b2 B3 b3 A5 c5):=hW▸ah.new w _ _;have HZ:=qh (show ∀ w',IY w w'->Calls Tryz.prog 170 #[.agg (CS x.ans B1 b1 B2 b2 B3 b3)] w' λ e al=>e = a3 (aW (Oh x.ans))/\IY w' al from λ w' _=>U0);have q0:W.cell? ⟨w.heap.size,0,none⟩=some (aD aE x.k):=a.cell 0;have q1:W.cell? ⟨w.heap.size,1,none⟩=some (aL x.nm):=a.cell 1;have q2:W.cell? ⟨w.heap.size,2,none⟩=some (aM A1 x.iff.length R):=a.cell 2;have q3:W.cell? ⟨w.heap.size,3,none⟩=some (aM Y x.ph.length Z):=a.cell 3;have q4:W.cell? ⟨w.heap.size,4,none⟩=some (aM P x.items.length Q):=a.cell 4;have q5:W.cell? ⟨w.heap.size,5,none⟩=some (aW x.sh):=a.cell 5;have q6:W.cell? ⟨w.heap.size,6,none⟩=some (aM V x.cnt.length O):=a.cell 6;have q7:W.cell? ⟨w.heap.size,7,none⟩=some (aL x.over):=a.cell 7;have q8:W.cell? ⟨w.heap.size,8,none⟩=some (aD aE x.ans.k):=a.cell 8;have q9:W.cell? ⟨w.heap.size,9,none⟩=some (aD aE x.ans.lo):=a.cell 9;have am:W.cell? ⟨w.heap.size,10,none⟩=some (aD aE x.ans.hi):=a.cell 10;have aw:W.cell? ⟨w.heap.size,11,none⟩=some (aD aE x.ans.pl):=a.cell 11;have an:W.cell? ⟨w.heap.size,12,none⟩=some (aL x.ans.ls):=a.cell 12;have aq:W.cell? ⟨w.heap.size,13,none⟩=some (aM B1 x.ans.only.length b1):=a.cell 13;have ar:W.cell? ⟨w.heap.size,14,none⟩=some (aW x.ans.sh):=a.cell 14;have ax:W.cell? ⟨w.heap.size,15,none⟩=some (aM B2 x.ans.rs.length b2):=a.cell 15;have ao:W.cell? ⟨w.heap.size,16,none⟩=some (aW x.ans.need):=a.cell 16;have ap:W.cell? ⟨w.heap.size,17,none⟩=some (aM B3 x.ans.ch.length b3):=a.cell 17;have T:W.cell? ⟨w.heap.size,18,none⟩=some (aM A5 x.cmp.length c5):=a.cell 18;have IX:(Df 57 (aR (some ⟨w.heap.size,8,none⟩))).run Tryz.prog W = .ok (.agg [aD aE x.ans.k,aD aE x.ans.lo,aD aE x.ans.hi,aD aE x.ans.pl,aL x.ans.ls,aM B1 x.ans.only.length b1,aW x.ans.sh,aM B2 x.ans.rs.length b2,aW x.ans.need,aM B3 x.ans.ch.length b3].toArray) W:=
  yl rfl (xx a (by intro j u c;match j,c with | 0,c | 1,c | 2,c | 3,c | 4,c | 5,c | 6,c | 7,c | 8,c | 9,c=>(exact c) | j+10,c=>simp at c))
 clear a hx;go_enter Tryz.func115,Tryz.ntmps115;go_upto_region 1 with (fail);rw[<- hW];clear hW;obtain⟨H,M⟩:=af (x.iff.length);have U:=qh M;rw[M] at q2 l2;clear M;obtain⟨n3,K⟩:=af (x.ph.length);have aa:=qh K;rw[K] at q3 l3;clear K;obtain⟨n4,J⟩:=af (x.items.length);have S:=qh J;rw[J] at q4 l4;clear J;obtain⟨G,L⟩:=af (x.cnt.length);have X:=qh L;rw[L] at q6 l6;clear L;obtain⟨b,N⟩:=af (x.cmp.length);have ab:=qh N;rw[N] at T ad;clear N;obtain⟨k,I⟩:=af (x.k);have HK:=qh I;rw[I] at q0 hk;clear I;obtain⟨z,hz⟩:=af (Oh x.ans);rw[hz] at HZ;obtain⟨s,hs⟩:=af (x.sh);have ak:=qh (a4 hz hs);have ae:=qh (show decide (1<G)=decide (1<(G:Int)) from decide_eq_decide.2 (by omega));rw[hs] at q5;clear hz hs;have HA:=qh (a4 HK.o (a4 U.o (a4 aa.o (a4 S.o (a4 X.o ab.o)))));clear HK U aa S X ab;rcases (by omega:k=1\/k=2\/k=3\/k=4\/k=5\/k=6) with rfl | rfl | rfl | rfl | rfl | rfl;cases s;rcases wE G with ⟨A,p,C⟩ | ⟨A,p,C⟩;rcases Gv x.over with ⟨h,f,g⟩ | ⟨h,f,g⟩;cases z;rotate_left;rcases wE b with ⟨m,n,D⟩ | ⟨m,n,D⟩;rcases QT H with ⟨d,i,l⟩ | ⟨d,i,l⟩;rotate_left 6;rcases wE n3 with ⟨t,q,r⟩ | ⟨t,q,r⟩;rcases wE G with ⟨A,p,C⟩ | ⟨A,p,C⟩;rcases Gv x.over with ⟨h,f,g⟩ | ⟨h,f,g⟩;cases z;rotate_left;rcases wE b with ⟨m,n,D⟩ | ⟨m,n,D⟩;rcases QT H with ⟨d,i,l⟩ | ⟨d,i,l⟩;rotate_left 6;rcases wE n3 with ⟨t,q,r⟩ | ⟨t,q,r⟩;cases s;rcases wE G with ⟨A,p,C⟩ | ⟨A,p,C⟩;rcases Gv x.over with ⟨h,f,g⟩ | ⟨h,f,g⟩;rotate_left;cases z;rotate_left;rcases wE b with ⟨m,n,D⟩ | ⟨m,n,D⟩;rcases QT H with ⟨d,i,l⟩ | ⟨d,i,l⟩;rotate_left 3;rcases Gv x.over with ⟨h,f,g⟩ | ⟨h,f,g⟩;cases z;rotate_left;rcases wE b with ⟨m,n,D⟩ | ⟨m,n,D⟩;rcases QT H with ⟨d,i,l⟩ | ⟨d,i,l⟩;rotate_left 6;rcases wE n4 with ⟨E,o,y⟩ | ⟨E,o,y⟩;cases s;rcases wE G with ⟨A,p,C⟩ | ⟨A,p,C⟩;rcases Gv x.over with ⟨h,f,g⟩ | ⟨h,f,g⟩;rcases wE b with ⟨m,n,D⟩ | ⟨m,n,D⟩;rcases QT H with ⟨d,i,l⟩ | ⟨d,i,l⟩;rotate_left 7;rcases wE n3 with ⟨t,q,r⟩ | ⟨t,q,r⟩;rcases wE n4 with ⟨E,o,y⟩ | ⟨E,o,y⟩;cases s;rcases wE G with ⟨A,p,C⟩ | ⟨A,p,C⟩;rcases Gv x.over with ⟨h,f,g⟩ | ⟨h,f,g⟩;cases z;rotate_left;rcases akt b with ⟨WL,ac,eH⟩ | ⟨WL,ac,eH⟩;rcases QT H with ⟨d,i,l⟩ | ⟨d,i,l⟩;rotate_left 8;rcases wE n4 with ⟨E,o,y⟩ | ⟨E,o,y⟩;cases s;rcases wE G with ⟨A,p,C⟩ | ⟨A,p,C⟩;rcases Gv x.over with ⟨h,f,g⟩ | ⟨h,f,g⟩;cases z;rotate_left;rcases wE b with ⟨m,n,D⟩ | ⟨m,n,D⟩;rcases QT H with ⟨d,i,l⟩ | ⟨d,i,l⟩;rotate_left 7
 all_goals
  go_wp2_with (go_at_call 170;(with_reducible refine (HZ.o _ (by first | exact v | exact v.drew)).mono ?_);rintro e1 w1 ⟨rfl,F⟩;have av:=Below.cell_of F T;have r2:=Below.cell_of F q2;have r6:=Below.cell_of F q6);go_ret;refine⟨au ?_,by first | exact v | exact v.trans (F.mono v.size)⟩;unfold yM;simp[HA.o,ak.o,ae.o, *]
end Go.Proofs.YtcnagconagpkcaaGreatDoor
