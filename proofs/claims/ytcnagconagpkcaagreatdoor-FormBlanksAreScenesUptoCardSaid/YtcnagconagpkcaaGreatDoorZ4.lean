/- Lemmas. -/
import Derived.Test.YtcnagconagpkcaaGreatDoorZ3
set_option maxHeartbeats 8000000
set_option maxRecDepth 100000
open Go.Value renaming int->a3, string->a7, slice->a8, pointer->a9, bool->ba
open Go.IntKind renaming i64->a6
open Nat renaming le_trans->bb, le_refl->bd, zero_le->bg, eq_zero_or_pos->bk, min_eq_left->bw, mul_le_mul_right->bx
open And renaming intro->bc
open List renaming all_eq_true->be, length_take->bf, eq_nil_of_length_eq_zero->bh, drop_eq_getElem_cons->bi, drop_eq_nil_of_le->bj, take_succ_eq_append_getElem->bl, getElem?_map->bm, getElem_mem->bo, any_eq_true->bp, getElem?_eq_getElem->bq, mem_cons->br, not_mem_nil->bs, mem_cons_self->bt, take_of_length_le->bv, mem_append->bA, mem_singleton->bB, all_cons->bD
namespace Go.Proofs.YtcnagconagpkcaaGreatDoor
open Go.RowKit
attribute [local go_sem ↓] Go.wp_at_zero Go.wp_at_succ
def eX (a b:List ByteArray):Bool:=decide (a.length<=b.length) && decide (a=b.take a.length)
theorem yJ (a b:List ByteArray) (A:Option Addr) (c:Nat) (A':Option Addr) (c' B:Nat) (w:World) (k:a.length<=maxLen) (s:b.length<=maxLen) (t:bV w B A a) (o:bV w B A' b) (v:b.length<=c') (u:B<=w.heap.size) :
  IE 245 #[a8 A a.length c,a8 A' b.length c'] w (ba (eX a b)):=by
 unfold eX;by_cases hl:a.length<=b.length
 .have g:(a.length:Int)<=(b.length:Int):=by omega
  have m:a.length<=c':=by omega
  have d:(b.take a.length).length=a.length:=by rw[bf];omega
  have K:=qh (show Calls Tryz.prog 16 #[a8 A a.length c,a8 A' a.length c'] w λ e n=>e = .returned (ba (decide (a=b.take a.length)))/\IY w n by
   have h:=jG A A' c c' B B a (b.take a.length) w k (by rw[d];exact k) t (o.take _);rw[d] at h;exact h)
  unfold maxLen at k s;rcases hA':A' with _ | ad
  .have j:b.length=0:=by
    rcases bk b.length with h | h
    .exact h
    .obtain⟨ad,e,-⟩:=o.2 h;rw[hA'] at e;cases e
   subst hA';have i:a.length=0:=by omega
   have q:=bh i;have r:=bh j;subst q r;clear hl d g m i j;go_enter Tryz.func245,Tryz.ntmps245;go_wp2_with fail;refine K.o.mono ?_;rintro e p ⟨rfl,f⟩;go_wp2_with fail;go_ret;exact⟨au (by simp),f⟩
  .subst hA';have l:=qh hl;clear hl d;go_enter Tryz.func245,Tryz.ntmps245;go_wp2_with fail;refine K.o.mono ?_;rintro e p ⟨rfl,f⟩;go_wp2_with fail;go_ret;exact⟨au (by rw[decide_eq_true l.o];simp),f⟩
 .have g:¬ (a.length:Int)<=(b.length:Int):=by omega
  have l:=qh hl;clear hl;go_enter Tryz.func245,Tryz.ntmps245;go_wp2_with fail;go_ret;exact⟨au (by rw[decide_eq_false l.o];simp),Below.refl _ _⟩
theorem Fp (a b:List ByteArray) (A:Option Addr) (c:Nat) (A':Option Addr) (c' B:Nat) (w:World) (k:a.length<=maxLen) (s:b.length<=maxLen) (t:bV w B A a) (o:bV w B A' b) (v:b.length<=c') (u:B<=w.heap.size) :
  IE 89 #[a8 A a.length c,a8 A' b.length c'] w (ba (eX a b)):=by
 unfold eX;by_cases hl:a.length<=b.length
 .have g:(a.length:Int)<=(b.length:Int):=by omega
  have m:a.length<=c':=by omega
  have d:(b.take a.length).length=a.length:=by rw[bf];omega
  have K:=qh (show Calls Tryz.prog 16 #[a8 A a.length c,a8 A' a.length c'] w λ e n=>e = .returned (ba (decide (a=b.take a.length)))/\IY w n by
   have h:=jG A A' c c' B B a (b.take a.length) w k (by rw[d];exact k) t (o.take _);rw[d] at h;exact h)
  unfold maxLen at k s;rcases hA':A' with _ | ad
  .have j:b.length=0:=by
    rcases bk b.length with h | h
    .exact h
    .obtain⟨ad,e,-⟩:=o.2 h;rw[hA'] at e;cases e
   subst hA';have i:a.length=0:=by omega
   have q:=bh i;have r:=bh j;subst q r;clear hl d g m i j;go_enter Tryz.func89,Tryz.ntmps89;go_wp2_with fail;refine K.o.mono ?_;rintro e p ⟨rfl,f⟩;go_wp2_with fail;go_ret;exact⟨au (by simp),f⟩
  .subst hA';have l:=qh hl;clear hl d;go_enter Tryz.func89,Tryz.ntmps89;go_wp2_with fail;refine K.o.mono ?_;rintro e p ⟨rfl,f⟩;go_wp2_with fail;go_ret;exact⟨au (by rw[decide_eq_true l.o];simp),f⟩
 .have g:¬ (a.length:Int)<=(b.length:Int):=by omega
  have l:=qh hl;clear hl;go_enter Tryz.func89,Tryz.ntmps89;go_wp2_with fail;go_ret;exact⟨au (by rw[decide_eq_false l.o];simp),Below.refl _ _⟩
def idxFrom {α:Type} (f:α->Bool):List α->Nat->Int
 | [],_=>-1
 | a :: r,k=>if f a then k else idxFrom f r (k+1)
theorem Ag {α:Type} {f:α->Bool} {l:List α} {k:Nat} (h:k<l.length):idxFrom f (l.drop k) k=if f l[k] then (k:Int) else idxFrom f (l.drop (k+1)) (k+1):=by
 rw[bi h,idxFrom]
theorem zf {α:Type} {f:α->Bool}:∀ {l:List α} {k:Nat},decide (0<=idxFrom f l k)=l.any f
 | [],_=>rfl
 | a :: r,k=>by
  rw[idxFrom,List.any_cons];by_cases hf:f a=true
  .rw[if_pos hf,hf];simp
  .rw[if_neg hf,zf,Bool.eq_false_iff.2 hf];simp
def Ah (l:List aG) (s:ByteArray):Int:=idxFrom (λ c=>decide (c.nm=s)) l 0
def pO (l:List aQ) (s:ByteArray):Int:=idxFrom (λ c=>decide (c.nm=s)) l 0
theorem Qr (l:List aG) (A:Option Addr) (c B:Nat) (s:ByteArray) (w:World) (m:bU w B A l) (t:B<=w.heap.size) :
  IE 85 #[a8 A l.length c,a7 s] w (a3 a6 (Ah l s)):=by
 have h:=qh m;have u:=m.1;unfold maxLen at u;clear m;go_enter Tryz.func85,Tryz.ntmps85;go_wp2;go_loopw [9] (λ i wr=>∃ k:Nat,k<=l.length/\i = a3 a6 k/\Hid (Ah l s=idxFrom (λ c=>decide (c.nm=s)) (l.drop k) k)/\IY w wr) (λ i _=>l.length - (intOf i).toNat)
 case atStart=>exact⟨0,bg _,rfl,qh rfl,Below.refl _ _⟩
 case round =>
  obtain⟨k,E,rfl,n,b⟩:=hrel;have p:=b.size;by_cases hlt:k<l.length
  .obtain⟨ad,y,rfl,z,f,a⟩:=(h.o.keep (b.mono t)).at_ hlt;obtain⟨d,j⟩:=af (l[k]);have o:=qh (show Ah l s=if d.nm=s then (k:Int) else idxFrom (λ c=>decide (c.nm=s)) (l.drop (k+1)) (k+1) by
    rw[n.o,Ag hlt,j];simp)
   rw[j] at f;have q:=qh hlt;obtain⟨⟨r,v,rfl,-,-⟩,-,-,-⟩:=f;obtain⟨F,D,C⟩:=IC a;clear a j;by_cases hs:d.nm=s
   .have g:=qh (o.o.trans (if_pos hs));have x:(d.nm.toList == s.toList)=true:=jb hs;clear hs;go_wp2;go_ret;exact⟨ag (by rw[g.o]),b.alloc p _⟩
   .have g:=qh (o.o.trans (if_neg hs));have x:(d.nm.toList == s.toList)=false:=dE hs;clear hs;go_wp2;go_roundw
    case rel=>exact⟨k+1,q.o,by go_num,g,b.alloc p _⟩
    case measure =>
     have:=q.o;simp[intOf];omega
  .have g:=qh (show Ah l s = -1 by rw[n.o,bj (by omega)];rfl);go_wp2;go_ret;exact⟨ag (by rw[g.o]),b⟩
def Ai (A:Option Addr) (i:Int):Value:=if 0<=i then a9 (A.map (·.add (i.toNat*2))) else a9 none
theorem NG (l:List aQ) (C:Value) (A:Option Addr) (c B:Nat) (s:ByteArray) (w:World) (E:∃ a n m,C = a8 a n m) (o:dX w B A l) (G:B<=w.heap.size) :
  IE 87 #[.agg #[C,a8 A l.length c],a7 s] w (Ai A (pO l s)):=by
 obtain⟨v,t,p,rfl⟩:=E;have r:=qh o;have H:=o.1;unfold maxLen at H;clear o;go_enter Tryz.func87,Tryz.ntmps87;go_wp2;obtain⟨W,h⟩:=aC ((w.alloc (.cells #[a8 v t p,a8 A l.length c] 121 (0,0))));have f:IY w W:=by rw[h];exact ((Below.refl _ w).alloc (bd _) _)
 have B0:ah W (w.heap.size) 121 #[a8 v t p,a8 A l.length c]:=by
  rw[h];have:=ah.new w 121 #[a8 v t p,a8 A l.length c];exact this
 have u:W.heap.size=w.heap.size+1:=by rw[h];simp
 rw[<- h];have q:=qh B0;clear h u B0
 go_loop [9] (λ i=>∃ k:Nat,k<=l.length/\i = a3 a6 k/\Hid (pO l s=idxFrom (λ c=>decide (c.nm=s)) (l.drop k) k)) (λ i=>l.length - (intOf i).toNat)
 case atStart=>exact⟨0,bg _,rfl,qh rfl⟩
 case round =>
  obtain⟨k,P,rfl,y⟩:=hrel;have B0:=q.o;obtain⟨O,L⟩:=ah.c2 B0;by_cases hlt:k<l.length
  .obtain⟨ad,K,rfl,M,g,b⟩:=(r.o.keep (f.mono G)).at_ hlt;obtain⟨d,x⟩:=af (l[k]);have z:=qh (show pO l s=if d.nm=s then (k:Int) else idxFrom (λ c=>decide (c.nm=s)) (l.drop (k+1)) (k+1) by
    rw[y.o,Ag hlt,x];simp)
   rw[x] at g;have D:=qh hlt;obtain⟨⟨F,I,rfl,-,-⟩,-,-,-⟩:=g;obtain⟨Q,N⟩:=H7 b;clear b x;by_cases hs:d.nm=s
   .have j:=qh (z.o.trans (if_pos hs));have J:(d.nm.toList == s.toList)=true:=jb hs;clear hs B0;go_wp2;go_ret;exact⟨bP (by rw[j.o];unfold Ai;rw[if_pos (by omega)];rfl),f⟩
   .have j:=qh (z.o.trans (if_neg hs));have J:(d.nm.toList == s.toList)=false:=dE hs;clear hs B0;go_wp2
    go_round
    case rel=>exact⟨k+1,D.o,by go_num,j⟩
    case measure =>
     have:=D.o;simp[intOf];omega
  .have j:=qh (show pO l s = -1 by rw[y.o,bj (by omega)];rfl);clear B0;go_wp2;go_ret;exact⟨bP (by rw[j.o];rfl),f⟩
theorem NH {l:List aQ} {at_:List ByteArray} {z:ByteArray} (a:at_.getLast?=some z):dF l at_=l.any (λ n=>decide (n.nm=z) && decide (n.loops=at_.dropLast)):=by unfold dF;rw[a]
theorem wU (l:List aQ) (AN:Option Addr) (cn:Nat) (at_:List ByteArray) (A:Option Addr) (c B:Nat) (w:World) (L:dX w B AN l) (ha:at_.length<=maxLen) (hx:bV w B A at_) (hc:at_.length<=c) (X:B<=w.heap.size) :
  IE 42 #[a8 AN l.length cn,a8 A at_.length c] w (ba (dF l at_)):=by
 have M:=qh L;have HX:=qh hx;have HA:=qh ha;have hl:=L.1;unfold maxLen at hl ha;clear L hx;rcases bk at_.length with y | y
 .have e1:=bh y;subst e1;clear y;go_enter Tryz.func42,Tryz.ntmps42;go_wp2_with (fail);go_ret;exact⟨rfl,Below.refl _ _⟩
 .obtain⟨z,hz,x⟩:=SN y;obtain⟨b,o,rfl,hb,a⟩:=HX.o.plain y;have D:w.cell? ⟨b,o+(at_.length - 1),none⟩=some (a7 z):=a _ _ (by unfold jq;rw[bm,x];rfl);have Z:=qh D;have HN:=qh (NH (l:=l) hz);have aa:(1:Int)<=(at_.length:Nat):=by omega
  have bn:((at_.length:Int) == 0)=false:=by rw[beq_eq_false_iff_ne];omega
  have O:b<w.heap.size:=by omega
  have ac:((at_.length:Nat):Int) - 1<=(c:Nat):=by omega
  have i0:IntKind.i64.wrap ((at_.length:Int) - 1)=(at_.length:Int) - 1:=IntWalk.i64_in _ (by omega);have i1:((at_.length:Int) - 1).toNat=at_.length - 1:=by omega
  have i2:(0:Int)<=(at_.length:Int) - 1:=by omega
  have i3:(at_.length:Int) - 1<(at_.length:Int):=by omega
  have p:(at_.take (at_.length - 1)).length=at_.length - 1:=by rw[bf];omega
  have r:=qh p;clear a hz x D p;go_enter Tryz.func42,Tryz.ntmps42;go_wp2;go_loopw [16] (λ i wr=>∃ k:Nat,k<=l.length/\i = a3 a6 k/\Hid ((l.take k).any (λ n=>decide (n.nm=z) && decide (n.loops=at_.dropLast))=false)/\IY w wr) (λ i _=>l.length - (intOf i).toNat)
  case atStart=>exact⟨0,bg _,rfl,qh rfl,Below.refl _ _⟩
  case round =>
   obtain⟨k,hk,rfl,HD,f⟩:=hrel;have P:=f.size;by_cases hlt:k<l.length
   .obtain⟨ad,ci,rfl,ab,G,a⟩:=(M.o.keep (f.mono X)).at_ hlt;obtain⟨d,I⟩:=af (l[k]);have HS:=qh (show (l.take (k+1)).any (λ n=>decide (n.nm=z) && decide (n.loops=at_.dropLast))=(decide (d.nm=z) && decide (d.loops=at_.dropLast)) by
     rw[bl hlt,List.any_append,HD.o,I];simp)
    have SQ:=qh (show d∈l by rw[<- I];exact bo hlt);rw[I] at G;have K:=qh hlt;obtain⟨⟨v,u,rfl,wK,Y⟩,Q,E,R⟩:=G;obtain⟨kC,kT⟩:=H7 a;have nR:=qh (bc wK E);clear a I wK Y Q E R;go_upto_region 7 with (fail);obtain⟨W1,m⟩:=aC (wr.alloc (.cells #[a7 d.nm,a8 v d.loops.length u] 184 (0,0)));have j:IY wr W1:=m▸(Below.refl _ wr).alloc (bd _) _;have W:ah W1 wr.heap.size 184 #[a7 d.nm,a8 v d.loops.length u]:=m▸ah.new wr _ _;rw[<- m];have g:=f.trans (j.mono P);have r9:=Later.cell (show W1.cell? ⟨b,o+(at_.length - 1),none⟩=some (a7 z) by rw[g.cell (by exact O)];exact Z.o);have r0:=Later.cell (show W1.cell? ⟨wr.heap.size,0,none⟩=some (a7 d.nm) from W.cell 0);have r1:=Later.cell (show W1.cell? ⟨wr.heap.size,1,none⟩=some (a8 v d.loops.length u) from W.cell 1);have k1:∀ w':World,IY W1 w'->IE 16 #[a8 v d.loops.length u,a8 (some ⟨b,o,none⟩) (at_.length - 1) c] w' (ba (decide (d.loops=at_.dropLast))):=λ w' N=>by
     have C:=j.trans (N.mono j.size);have T:=f.trans (C.mono P);have h:=jG v (some ⟨b,o,none⟩) u c B B d.loops (at_.take (at_.length - 1)) w' nR.o.2 (by rw[r.o];have:=HA.o;omega) (nR.o.1.below (C.mono (bb X P))) ((HX.o.take _).below (T.mono X));rw[r.o,<- List.dropLast_eq_take] at h;exact h
    have U:=qh (Later.call k1);obtain⟨q,V⟩:=af (decide (d.loops=at_.dropLast));have HQ:=qh V;rw[V] at U;clear k1 m j W kC kT V;by_cases hs:d.nm=z
    .have b0:(d.nm.toList == z.toList)=true:=jb hs;have J:=qh (show (decide (d.nm=z) && decide (d.loops=at_.dropLast))=q by rw[HQ.o,decide_eq_true hs];simp);clear hs;refine aF (by kernel_rfl) (by kernel_rfl) ?_
     repeat (go_big_quiet_step (with_reducible exact U.o _))
     refine wpQuiet_nil ?_;intro _ t;obtain⟨⟨W9,F⟩,rfl⟩:=t;have H:=g.trans (F.mono g.size);clear F;cases q
     .have s:=qh (HS.o.trans J.o);go_wp2;go_roundw
      case rel=>exact⟨k+1,K.o,by go_num,s,H⟩
      case measure =>
       have:=K.o;simp[intOf];omega
     .have S:=qh (show dF l at_=true by rw[HN.o];exact bp.2 ⟨d,SQ.o,J.o⟩);go_wp2;go_ret;exact⟨au (by rw[S.o]),H⟩
    .have b0:(d.nm.toList == z.toList)=false:=dE hs;have J:=qh (show (decide (d.nm=z) && decide (d.loops=at_.dropLast))=false by rw[decide_eq_false hs];simp);clear hs;refine aF (by kernel_rfl) (by kernel_rfl) ?_
     repeat (go_big_quiet_step (with_reducible exact U.o _))
     refine wpQuiet_nil ?_;intro _ t;obtain⟨⟨W9,F⟩,rfl⟩:=t;have H:=g.trans (F.mono g.size);have s:=qh (HS.o.trans J.o);clear F;go_wp2;go_roundw
     case rel=>exact⟨k+1,K.o,by go_num,s,H⟩
     case measure =>
      have:=K.o;simp[intOf];omega
   .have S:=qh (show dF l at_=false by
     rw[HN.o];have h:=HD.o
     rwa [bv (by omega)] at h)
    go_wp2;go_ret;exact⟨au (by rw[S.o]),f⟩
theorem dY {W w':World} (h:∃ p:Later W,w'=p.w):IY W w':=by
 obtain⟨p,rfl⟩:=h;exact p.h
theorem aB.take {α:Type} {P:World->Nat->α->List Value->Prop} {size B:Nat} {w:World} {A:Option Addr} {l:List α} (h:aB P size w B A l) (k:Nat):aB P size w B A (l.take k):=by
 obtain⟨m,cs,b,d⟩:=h;have c:(l.take k).length<=l.length:=List.length_take_le' _ _;refine⟨bb c m,cs.take ((l.take k).length*size),⟨by rw[bf,b.1];exact bw (bx _ c),λ q=>?_⟩,λ i o=>?_⟩
 .obtain⟨ad,e,f,n⟩:=b.2 (by omega);refine⟨ad,e,f,λ j u a=>n j u ?_⟩;rw[List.getElem?_take] at a;split at a
  .exact a
  .cases a
 .have g:=d i (by omega);have p:i*size+size<=(l.take k).length*size:=by rw[<- Nat.succ_mul];exact bx _ o
  rw[List.drop_take,List.take_take,bw (by omega),List.getElem_take];exact g
theorem NI (b:List aG) (c:List aQ) (Z:Option Addr) (cc:Nat) (T:Option Addr) (cn B:Nat) (w:World) (hC:bU w B Z b) (hN:dX w B T c) (a2:b.length<=cc) (a1:c.length<=cn) (C:B<=w.heap.size) (aq:Sp w) :
  IE 41 #[.agg #[a8 Z b.length cc,a8 T c.length cn]] w (a3 a6 (bJ b c)):=by
 have ab:=qh hC;have aa:=qh hN;have SK:=qh aq;have aL:=hC.1;have ar:=hN.1;unfold maxLen at aL ar;clear hC hN aq;go_enter Tryz.func41,Tryz.ntmps41;go_wp2;obtain⟨W,hW⟩:=aC ((w.alloc (.cells #[a8 Z b.length cc,a8 T c.length cn] 121 (0,0))));have f:IY w W:=by rw[hW];exact ((Below.refl _ w).alloc (bd _) _)
 have B0:ah W (w.heap.size) 121 #[a8 Z b.length cc,a8 T c.length cn]:=by
  rw[hW];have:=ah.new w 121 #[a8 Z b.length cc,a8 T c.length cn];exact this
 have aE:W.heap.size=w.heap.size+1:=by rw[hW];simp
 rw[<- hW];have F:=qh B0;clear hW aE B0;go_loopw [12] (λ i wr=>∃ k:Nat,k<=b.length/\i = a3 a6 k/\Hid (aU aH [] b=aU aH (b.take k) (b.drop k))/\Hid (ah wr w.heap.size 121 #[a8 Z b.length cc,a8 T c.length cn])/\IY w wr) (λ i _=>b.length - (intOf i).toNat)
 case atStart=>exact⟨0,bg _,rfl,qh rfl,F,f⟩
 case round =>
  clear F f;obtain⟨k,hk,rfl,HD,F,m⟩:=hrel;have iT:=m.size;by_cases hlt:k<b.length
  .obtain⟨ad,ci,rfl,hb,E,g⟩:=(ab.o.keep (m.mono C)).at_ hlt;obtain⟨d,P⟩:=af (b[k]);have lq:=qh (show aU aH [] b=if aH (b.take k) d≠0 then aH (b.take k) d else aU aH (b.take (k+1)) (b.drop (k+1)) by
    rw[HD.o,bi hlt,P,aU,bl hlt,P])
   rw[P] at E;have X:=qh hlt;have ax:(k:Int)<=(cc:Nat):=by omega
   have aM:(0:Int)<=(k:Nat):=by omega
   have aD:k<=cc:=by omega
   obtain⟨⟨u,t,rfl,wK,G⟩,U,D,N⟩:=E;obtain⟨kC,kT,nZ⟩:=IC g;have nR:=qh (bc wK (bc G (bc D N)));clear g P wK G D N;go_wp2_with fail;obtain⟨W1,n⟩:=aC (wr.alloc (.cells #[a7 d.nm,a3 a6 d.kind,a8 u d.loops.length t] 51 (0,0)));have j:IY wr W1:=n▸(Below.refl _ wr).alloc (bd _) _;have l:ah W1 wr.heap.size 51 #[a7 d.nm,a3 a6 d.kind,a8 u d.loops.length t]:=n▸ah.new wr _ _;rw[<- n];have f:=m.trans (j.mono iT);have B1:=F.o.below j F.o.lt;have Qs:=qh (nR.o.1.below (j.mono (bb C iT)));obtain⟨bn,A⟩:=af (aV d.nm.data.toList);have S:=qh A;clear n A kC kT nZ;refine (wS d.nm W1 U (aA SK.o f)).mono ?_;rw[S.o];rintro en y ⟨rfl,r⟩;have f:=f.trans (r.mono f.size);have B1:=B1.below r B1.lt;have l:=l.below r l.lt;have al:=qh (Qs.o.below (r.mono (bb C (bb iT j.size))));have ay:wr.heap.size<y.heap.size:=l.lt;clear j r Qs;obtain⟨Y,EE⟩:=ah.c2 B1;have uf:y.cell? ⟨wr.heap.size,0,none⟩=some (a7 d.nm):=l.cell 0;have ug:y.cell? ⟨wr.heap.size,1,none⟩=some (a3 a6 d.kind):=l.cell 1;have Cc:y.cell? ⟨wr.heap.size,2,none⟩=some (a8 u d.loops.length t):=l.cell 2;cases bn
   .skip
    have M:=qh (show bJ b c=5 by
     have V:aH (b.take k) d=5:=by unfold aH;rw[if_pos S.o]
     have h:=lq.o;rw[V,if_pos (by decide)] at h;unfold bJ;rw[if_pos (by rw[h];decide),h])
    go_wp2;go_ret;exact⟨ag (by rw[M.o]),f⟩
   obtain⟨q,hq⟩:=af (Ah (b.take k) d.nm);have Fj:=qh (show decide (0<=q)=(b.take k).any (λ x=>decide (x.nm=d.nm)) by rw[<- hq];exact zf);have k1:∀ w':World,IY y w'->IE 85 #[a8 (some ad) k cc,a7 d.nm] w' (a3 a6 q):=λ w' z=>by
    have s:=f.trans (z.mono f.size);have h:=Qr (b.take k) (some ad) cc B d.nm w' ((ab.o.keep (s.mono C)).take k) (bb C s.size);rw[show (b.take k).length=k by rw[bf];have:=X.o;omega] at h;rw[hq] at h;exact h
   have K1:=qh (Later.call k1);have L:=Later.cell (show y.cell? ⟨w.heap.size,0,none⟩=some (a8 (some ad) b.length cc) from B1.cell 0);have K:=Later.cell (show y.cell? ⟨w.heap.size,1,none⟩=some (a8 T c.length cn) from B1.cell 1);have I:=Later.cell (show y.cell? ⟨wr.heap.size,0,none⟩=some (a7 d.nm) from l.cell 0);have O:=Later.cell (show y.cell? ⟨wr.heap.size,1,none⟩=some (a3 a6 d.kind) from l.cell 1);have ak:=Later.cell (show y.cell? ⟨wr.heap.size,2,none⟩=some (a8 u d.loops.length t) from l.cell 2);clear k1 hq Y EE uf ug Cc;by_cases hq0:0<=q
   .have b0:decide ((0:Int)<=q)=true:=decide_eq_true hq0;have v:=qh (Fj.o.symm.trans b0);clear hq0;go_upto_region 6 with (fail);refine aF (by kernel_rfl) (by kernel_rfl) ?_
    repeat (go_big_quiet_step (with_reducible exact K1.o _))
    refine wpQuiet_nil ?_;intro Q o;have H:=dY o;clear o;have f:=f.trans (H.mono f.size);clear H L K I O ak;have M:=qh (show bJ b c=6 by
     have V:aH (b.take k) d=6:=by unfold aH;rw[if_neg (by rw[S.o];simp),if_pos v.o]
     have h:=lq.o;rw[V,if_pos (by decide)] at h;unfold bJ;rw[if_pos (by rw[h];decide),h])
    go_wp2;go_ret;exact⟨ag (by rw[M.o]),f⟩
   have b0:decide ((0:Int)<=q)=false:=decide_eq_false hq0;have v:=qh (Fj.o.symm.trans b0);clear hq0;go_upto_region 6 with (fail);refine aF (by kernel_rfl) (by kernel_rfl) ?_
   repeat (go_big_quiet_step (with_reducible exact K1.o _))
   refine wpQuiet_nil ?_;intro Q o;have H:=dY o;clear o;have B1:=B1.below H B1.lt;have l:=l.below H l.lt;have f:=f.trans (H.mono f.size);clear H L K I O ak;obtain⟨Y,EE⟩:=ah.c2 B1;have uf:Q.cell? ⟨wr.heap.size,0,none⟩=some (a7 d.nm):=l.cell 0;have ug:Q.cell? ⟨wr.heap.size,1,none⟩=some (a3 a6 d.kind):=l.cell 1;have Cc:Q.cell? ⟨wr.heap.size,2,none⟩=some (a8 u d.loops.length t):=l.cell 2;obtain⟨ok,ap⟩:=af (aN d.kind 2 7);have ac:=qh ap;clear ap;go_wp2_with fail;refine (gU d.kind 2 7 Q).mono ?_;rw[ac.o];rintro en w3 ⟨rfl,rfl⟩;cases ok;rotate_left
   .skip
    have M:=qh (show bJ b c=4 by
     have V:aH (b.take k) d=4:=by unfold aH;rw[if_neg (by rw[S.o];simp),if_neg (by rw[v.o];simp),if_pos ac.o]
     have h:=lq.o;rw[V,if_pos (by decide)] at h;unfold bJ;rw[if_pos (by rw[h];decide),h])
    go_wp2;go_ret;exact⟨ag (by rw[M.o]),f⟩
   have R:=qh (show aU aH [] b=aU aH (b.take (k+1)) (b.drop (k+1)) by
    rw[lq.o,if_neg];unfold aH;rw[if_neg (by rw[S.o];simp),if_neg (by rw[v.o];simp),if_neg (by rw[ac.o];simp)];simp)
   have ae:=qh B1;clear B1;go_wp2;go_roundw
   case rel=>exact⟨k+1,X.o,by go_num,R,ae,f⟩
   case measure =>
    have:=X.o;simp[intOf];omega
  .have wL:=qh (show aU aH [] b=0 by rw[HD.o,bj (by omega)];rfl);have f:=m;have B1:=F.o;obtain⟨Y,EE⟩:=ah.c2 B1;clear B1 HD;go_wp2;clear Y EE;go_loopw [40] (λ i wr=>∃ k:Nat,k<=c.length/\i = a3 a6 k/\Hid (aU aJ [] c=aU aJ (c.take k) (c.drop k))/\Hid (ah wr w.heap.size 121 #[a8 Z b.length cc,a8 T c.length cn])/\IY w wr) (λ i _=>c.length - (intOf i).toNat)
   case atStart=>exact⟨0,bg _,rfl,qh rfl,F,f⟩
   case round =>
    clear F f;obtain⟨k,hk,rfl,HD,F,m⟩:=hrel;have iT:=m.size;by_cases hlt:k<c.length
    .obtain⟨ad,ci,rfl,hb,E,g⟩:=(aa.o.keep (m.mono C)).at_ hlt;obtain⟨d,P⟩:=af (c[k]);have lq:=qh (show aU aJ [] c=if aJ (c.take k) d≠0 then aJ (c.take k) d else aU aJ (c.take (k+1)) (c.drop (k+1)) by
      rw[HD.o,bi hlt,P,aU,bl hlt,P])
     rw[P] at E;have X:=qh hlt;have ax:(k:Int)<=(cn:Nat):=by omega
     have aM:(0:Int)<=(k:Nat):=by omega
     have aD:k<=cn:=by omega
     obtain⟨⟨u,t,rfl,wK,G⟩,U,D,N⟩:=E;obtain⟨kC,kT⟩:=H7 g;have nR:=qh (bc wK (bc G (bc D N)));clear g P wK G D N;go_wp2_with fail;obtain⟨W1,n⟩:=aC (wr.alloc (.cells #[a7 d.nm,a8 u d.loops.length t] 184 (0,0)));have j:IY wr W1:=n▸(Below.refl _ wr).alloc (bd _) _;have l:ah W1 wr.heap.size 184 #[a7 d.nm,a8 u d.loops.length t]:=n▸ah.new wr _ _;rw[<- n];have f:=m.trans (j.mono iT);have B1:=F.o.below j F.o.lt;have Qs:=qh (nR.o.1.below (j.mono (bb C iT)));obtain⟨bn,A⟩:=af (aV d.nm.data.toList);have S:=qh A;clear n A kC kT;refine (wS d.nm W1 U (aA SK.o f)).mono ?_;rw[S.o];rintro en y ⟨rfl,r⟩;have f:=f.trans (r.mono f.size);have B1:=B1.below r B1.lt;have l:=l.below r l.lt;have al:=qh (Qs.o.below (r.mono (bb C (bb iT j.size))));have ay:wr.heap.size<y.heap.size:=l.lt;clear j r Qs;obtain⟨Y,EE⟩:=ah.c2 B1;obtain⟨uf,ug⟩:=ah.c2 l;cases bn
     .skip
      have M:=qh (show bJ b c=5 by
       have V:aJ (c.take k) d=5:=by unfold aJ;rw[if_pos S.o]
       have h:=lq.o;rw[V,if_pos (by decide)] at h;unfold bJ;rw[if_neg (by rw[wL.o];simp),if_pos (by rw[h];decide),h])
      go_wp2;go_ret;exact⟨ag (by rw[M.o]),f⟩
     obtain⟨q,hq⟩:=af (pO (c.take k) d.nm);have Fj:=qh (show decide (0<=q)=(c.take k).any (λ x=>decide (x.nm=d.nm)) by rw[<- hq];exact zf);obtain⟨p,hp⟩:=af (Ai (some ad) q);have HP:=qh hp;have k1:∀ w':World,IY y w'->IE 87 #[.agg #[a8 none 0 0,a8 (some ad) k cn],a7 d.nm] w' (p):=λ w' z=>by
      have s:=f.trans (z.mono f.size);have h:=NG (c.take k) (a8 none 0 0) (some ad) cn B d.nm w' ⟨_,_,_,rfl⟩ ((aa.o.keep (s.mono C)).take k) (bb C s.size);rw[show (c.take k).length=k by rw[bf];have:=X.o;omega] at h;rw[hq,hp] at h;exact h
     have K1:=qh (Later.call k1);have L:=Later.cell (show y.cell? ⟨w.heap.size,0,none⟩=some (a8 Z b.length cc) from B1.cell 0);have K:=Later.cell (show y.cell? ⟨w.heap.size,1,none⟩=some (a8 (some ad) c.length cn) from B1.cell 1);have I:=Later.cell (show y.cell? ⟨wr.heap.size,0,none⟩=some (a7 d.nm) from l.cell 0);have O:=Later.cell (show y.cell? ⟨wr.heap.size,1,none⟩=some (a8 u d.loops.length t) from l.cell 1);clear k1 hq hp Y EE uf ug;have am:=qh (show (q<0->p = a9 none)/\(0<=q->∃ a,p = a9 (some a)) from ⟨λ h=>by rw[<- HP.o];unfold Ai;rw[if_neg (by omega)],λ h=>by rw[<- HP.o];unfold Ai;rw[if_pos h];exact⟨_,rfl⟩⟩);by_cases hq0:0<=q
     .obtain⟨pa,rfl⟩:=am.o.2 hq0;have v:=qh (Fj.o.symm.trans (decide_eq_true hq0));clear hq0;go_upto_region 16 with (fail);refine aF (by kernel_rfl) (by kernel_rfl) ?_
      repeat (go_big_quiet_step (with_reducible exact K1.o _))
      refine wpQuiet_nil ?_;intro Q o;have H:=dY o;clear o;have f:=f.trans (H.mono f.size);clear H L K I O;have M:=qh (show bJ b c=6 by
       have V:aJ (c.take k) d=6:=by unfold aJ;rw[if_neg (by rw[S.o];simp),if_pos v.o]
       have h:=lq.o;rw[V,if_pos (by decide)] at h;unfold bJ;rw[if_neg (by rw[wL.o];simp),if_pos (by rw[h];decide),h])
      go_wp2;go_ret;exact⟨ag (by rw[M.o]),f⟩
     obtain rfl:=am.o.1 (by omega);have v:=qh (Fj.o.symm.trans (decide_eq_false hq0));clear hq0;go_upto_region 16 with (fail);refine aF (by kernel_rfl) (by kernel_rfl) ?_
     repeat (go_big_quiet_step (with_reducible exact K1.o _))
     refine wpQuiet_nil ?_;intro Q o;have H:=dY o;clear o;have B1:=B1.below H B1.lt;have l:=l.below H l.lt;have aR:=qh (al.o.below (H.mono (bb C f.size)));have f:=f.trans (H.mono f.size);obtain⟨nb,J⟩:=af (dF (c.take k) d.loops);have Ut:=qh J;have k2:∀ w':World,IY Q w'->IE 42 #[a8 (some ad) k cn,a8 u d.loops.length t] w' (ba nb):=λ w' z=>by
      have s:=f.trans (z.mono f.size);have h:=wU (c.take k) (some ad) cn d.loops u t B w' ((aa.o.keep (s.mono C)).take k) nR.o.2.2.1 (aR.o.below (z.mono (bb C f.size))) nR.o.2.1 (bb C s.size);rw[show (c.take k).length=k by rw[bf];have:=X.o;omega,J] at h;exact h
     have K2:=qh (Later.call k2);clear H L K I O k2 J;have L:=Later.cell (show Q.cell? ⟨w.heap.size,0,none⟩=some (a8 Z b.length cc) from B1.cell 0);have K:=Later.cell (show Q.cell? ⟨w.heap.size,1,none⟩=some (a8 (some ad) c.length cn) from B1.cell 1);have I:=Later.cell (show Q.cell? ⟨wr.heap.size,0,none⟩=some (a7 d.nm) from l.cell 0);have O:=Later.cell (show Q.cell? ⟨wr.heap.size,1,none⟩=some (a8 u d.loops.length t) from l.cell 1);go_upto_region 18 with (fail);refine aF (by kernel_rfl) (by kernel_rfl) ?_
     repeat (go_big_quiet_step (with_reducible exact K2.o _))
     refine wpQuiet_nil ?_;intro Xp o;have Qu:=dY o;clear o;have B1:=B1.below Qu B1.lt;have f:=f.trans (Qu.mono f.size);clear Qu L K I O;cases nb
     .skip
      have M:=qh (show bJ b c=7 by
       have V:aJ (c.take k) d=7:=by unfold aJ;rw[if_neg (by rw[S.o];simp),if_neg (by rw[v.o];simp),if_pos Ut.o]
       have h:=lq.o;rw[V,if_pos (by decide)] at h;unfold bJ;rw[if_neg (by rw[wL.o];simp),if_pos (by rw[h];decide),h])
      go_wp2;go_ret;exact⟨ag (by rw[M.o]),f⟩
     have R:=qh (show aU aJ [] c=aU aJ (c.take (k+1)) (c.drop (k+1)) by
      rw[lq.o,if_neg];unfold aJ;rw[if_neg (by rw[S.o];simp),if_neg (by rw[v.o];simp),if_neg (by rw[Ut.o];simp)];simp)
     have ae:=qh B1;clear B1;go_wp2;go_roundw
     case rel=>exact⟨k+1,X.o,by go_num,R,ae,f⟩
     case measure =>
      have:=X.o;simp[intOf];omega
    .have ao:=qh (show aU aJ [] c=0 by rw[HD.o,bj (by omega)];rfl);have f:=m;have B1:=F.o;obtain⟨Y,EE⟩:=ah.c2 B1;clear B1 HD;go_wp2;clear Y EE;go_loopw [73] (λ i wr=>∃ k:Nat,k<=b.length/\i = a3 a6 k/\Hid (∀ x∈b.take k,dF c x.loops=true)/\Hid (ah wr w.heap.size 121 #[a8 Z b.length cc,a8 T c.length cn])/\IY w wr) (λ i _=>b.length - (intOf i).toNat)
     case atStart=>exact⟨0,bg _,rfl,qh (by simp),F,f⟩
     case round =>
      clear F f;obtain⟨k,hk,rfl,R,F,m⟩:=hrel;have iT:=m.size;by_cases hlt:k<b.length
      .obtain⟨ad,ci,rfl,hb,E,g⟩:=(ab.o.keep (m.mono C)).at_ hlt;obtain⟨d,P⟩:=af (b[k]);have av:=qh (show b.take (k+1)=b.take k ++ [d] by rw[bl hlt,P]);have SQ:=qh (show d∈b by rw[<- P];exact bo hlt);rw[P] at E;have X:=qh hlt;obtain⟨⟨u,t,rfl,wK,G⟩,U,D,N⟩:=E;obtain⟨kC,kT,nZ⟩:=IC g;have nR:=qh (bc wK (bc G D));clear g P wK G U D N;obtain⟨nb,J⟩:=af (dF c d.loops);have Ut:=qh J;go_upto_region 24 with (fail);obtain⟨W1,n⟩:=aC (wr.alloc (.cells #[a7 d.nm,a3 a6 d.kind,a8 u d.loops.length t] 51 (0,0)));have j:IY wr W1:=n▸(Below.refl _ wr).alloc (bd _) _;have l:ah W1 wr.heap.size 51 #[a7 d.nm,a3 a6 d.kind,a8 u d.loops.length t]:=n▸ah.new wr _ _;rw[<- n];have f:=m.trans (j.mono iT);have B1:=F.o.below j F.o.lt;have Qs:=qh (nR.o.1.below (j.mono (bb C iT)));have k2:∀ w':World,IY W1 w'->IE 42 #[a8 T c.length cn,a8 u d.loops.length t] w' (ba nb):=λ w' z=>by
        have s:=f.trans (z.mono f.size);have h:=wU c T cn d.loops u t B w' (aa.o.keep (s.mono C)) nR.o.2.2 (Qs.o.below (z.mono (bb C f.size))) nR.o.2.1 (bb C s.size);rw[J] at h;exact h
       have K2:=qh (k2 W1 (Below.refl _ _));have K3:=qh (Later.call k2);clear n j k2 J kC kT nZ;obtain⟨Y,EE⟩:=ah.c2 B1;have uf:W1.cell? ⟨wr.heap.size,0,none⟩=some (a7 d.nm):=l.cell 0;have ug:W1.cell? ⟨wr.heap.size,1,none⟩=some (a3 a6 d.kind):=l.cell 1;have Cc:W1.cell? ⟨wr.heap.size,2,none⟩=some (a8 u d.loops.length t):=l.cell 2;go_wp2_with fail;refine K2.o.mono ?_;rintro en W4 ⟨rfl,A⟩;have f:=f.trans (A.mono f.size);have B1:=B1.below A B1.lt;clear A Y EE uf ug Cc;cases nb
       .have M:=qh (show bJ b c=9 by
         unfold bJ;rw[if_neg (by rw[wL.o];simp),if_neg (by rw[ao.o];simp),if_pos (bp.2 ⟨d,SQ.o,by rw[Ut.o];rfl⟩)])
        go_wp2;go_ret;exact⟨ag (by rw[M.o]),f⟩
       have aw:=qh (show ∀ x∈b.take (k+1),dF c x.loops=true by
        rw[av.o];intro x hx;rcases bA.1 hx with h | h
        .exact R.o x h
        .rw[bB] at h;rw[h];exact Ut.o)
       have a0:=qh B1;clear B1;go_wp2;go_roundw
       case rel=>exact⟨k+1,X.o,by go_num,aw,a0,f⟩
       case measure =>
        have:=X.o;simp[intOf];omega
      .have M:=qh (show bJ b c=0 by
        have h:=R.o;rw[bv (by omega)] at h;unfold bJ;rw[if_neg (by rw[wL.o];simp),if_neg (by rw[ao.o];simp),if_neg];intro hc;obtain⟨x,hx,an⟩:=bp.1 hc;rw[h x hx] at an;cases an)
       go_wp2;go_ret;exact⟨ag (by rw[M.o]),m⟩
end Go.Proofs.YtcnagconagpkcaaGreatDoor
namespace Go.Proofs.YtcnagconagpkcaaGreatDoor
open Go.RowKit
def nC (ok:Bool) (k:Int):Int × Int:=if ok then (k,0) else (0,8)
theorem fits_any (a:Bool) (k:Int) (w:World) :
  KG 267 #[ba a,a3 a6 k] w (.tuple #[a3 a6 (nC a k).1,a3 a6 (nC a k).2]):=by
 cases a
 all_goals
  go_enter Tryz.func267,Tryz.ntmps267;go_wp2;go_ret2;exact⟨rfl,rfl⟩
theorem Xq (b:Nat) (k:Int) (w:World) (a:w.cell? ⟨b,0,none⟩=some (a3 a6 k)) (x:Int) :
  KG 282 #[a3 a6 x,a9 (some ⟨b,0,none⟩)] w (ba (x != k)):=by
 go_enter Tryz.func282,Tryz.ntmps282;go_wp2;go_ret;exact⟨rfl,rfl⟩
theorem abn (b:Nat) (k:Int) (w:World) (e:w.cell? ⟨b,0,none⟩=some (a3 a6 k)):PredAt Tryz.prog 282 #[a9 (some ⟨b,0,none⟩)] (λ x:Int=>.int a6 x) (λ x=>x != k) w:=by
 intro W x d;exact (Xq b k W (Below.cell_of d e) x).mono λ _ _ ⟨c,a⟩=>⟨c,0,a▸rfl⟩
theorem Qv {w:World} {b o:Nat} {l:List Int} (h:∀ j u,(bI a6 l)[j]?=some u->w.cell? ⟨b,o+j,none⟩=some u):∀ j,j<l.length->w.cell? ⟨b,o+j,none⟩=some (a3 a6 l[j]!):=by
 intro j a;refine h j _ ?_;unfold bI;rw[bm,bq a];simp[a]
def allB (ks:List Int) (k:Int):Bool:=ks.all (λ x=>decide (x=k))
theorem abo (ks:List Int) (k:Int):allB ks k=!(ks.any (λ x=>x != k)):=by
 unfold allB;rw[Bool.eq_iff_iff];simp
theorem Xr (ks:List Int) (A:Option Addr) (c B:Nat) (b:Nat) (k:Int) (w:World) (m:ks.length<=maxLen) (l:Reads w B 1 A ks.length (bI a6 ks)) (j:w.cell? ⟨b,0,none⟩=some (a3 a6 k)) :
  IE 281 #[a8 A ks.length c,.func (.func 282) #[] #[a9 (some ⟨b,0,none⟩)]] w (ba (!allB ks k)):=by
 unfold maxLen at m;rw[abo,Bool.not_not];rcases bk ks.length with f | f
 .have g:=bh f;subst g;exact (Tryz.slices_ContainsFunc_empty (α:=Int) A c _ w).mono λ _ _ ⟨a,d⟩=>⟨a,d▸Below.refl _ _⟩
 .obtain⟨b1,h,rfl,-,i⟩:=l.plain f;refine (Tryz.slices_ContainsFunc (α:=Int) (λ x=>.int a6 x) (λ x=>x != k) 282 _ (enters_of Tryz.func282 (by kernel_rfl) rfl) b1 h ks.length c ks w (abn b k w j) (bd _) (by omega) (Qv i)).mono λ _ _ ⟨a,q,d⟩=>⟨by rw[a,List.take_length],d▸(Below.refl _ _).drewN q⟩
theorem mF (ks:List Int) (A:Option Addr) (c B:Nat) (k:Int) (w:World) (j:ks.length<=maxLen) (i:Reads w B 1 A ks.length (bI a6 ks)) (h:B<=w.heap.size) :
  IE 268 #[a8 A ks.length c,a3 a6 k] w (ba (allB ks k)):=by
 have g:=qh (bc i h);clear i h;go_enter Tryz.func268,Tryz.ntmps268;go_wp2_with fail;obtain⟨W,b⟩:=aC ((w.alloc (.cells #[a3 a6 k] 3 (0,0))));have a:IY w W:=by rw[b];exact ((Below.refl _ w).alloc (bd _) _)
 have B0:ah W (w.heap.size) 3 #[a3 a6 k]:=by
  rw[b];have:=ah.new w 3 #[a3 a6 k];exact this
 have f:W.heap.size=w.heap.size+1:=by rw[b];simp
 rw[<- b];clear b f;refine (Xr ks A c B w.heap.size k W j (g.o.1.below (a.mono g.o.2)) (B0.cell 0)).mono ?_;rintro e l ⟨rfl,d⟩;have a:=a.trans (d.mono a.size);go_wp2;go_ret;exact⟨au (by simp),a⟩
def vH (op k:Int):Int × Int:=if op=1 then nC (decide (k=2)) 2 else if op=2 then nC (decide (k=7)) 2 else if op=3\/op=4 then nC (decide (k=7)) 7 else nC (decide (k=2) || decide (k=6)) k
theorem Ky (a k:Int) (w:World) (b:1<=a) (c:a<=6) :
  KG 246 #[a3 a6 a,a3 a6 k] w (.tuple #[a3 a6 (vH a k).1,a3 a6 (vH a k).2]):=by
 obtain rfl | rfl | rfl | rfl | rfl | rfl:a=1\/a=2\/a=3\/a=4\/a=5\/a=6:=by omega
 all_goals
  go_enter Tryz.func246,Tryz.ntmps246;go_wp2_with (go_at_call 267;refine (fits_any _ _ _).mono ?_;rintro e w' ⟨rfl,rfl⟩)
  all_goals
   go_ret2;exact⟨bP (by simp_all[vH,nC]),rfl⟩
end Go.Proofs.YtcnagconagpkcaaGreatDoor
namespace Go.Proofs.YtcnagconagpkcaaGreatDoor
open Go.RowKit
attribute [local go_sem ↓] Go.wp_at_zero Go.wp_at_succ
def yA (m k so:Int):Int × Bool:=
 if m = -1 then (k,so == 0 || so == k) else if m = -2 then (k,(k == 2 || k == 6) && (so == 0 || so == k)) else if m = -3 then (so,k == 5 || k == 3) else (so,m == k)
theorem Uu (m k a:Int) (w:World) :
  KG 135 #[a3 a6 m,a3 a6 k,a3 a6 a] w (.tuple #[a3 a6 (yA m k a).1,ba (yA m k a).2]):=by
 by_cases h1:m = -1
 .subst h1;go_enter Tryz.func135,Tryz.ntmps135;go_wp2
  all_goals (go_ret2;exact⟨bP (by simp_all[yA]),rfl⟩)
 by_cases h2:m = -2
 .subst h2;go_enter Tryz.func135,Tryz.ntmps135;go_wp2
  all_goals (go_ret2;exact⟨bP (by simp_all[yA]),rfl⟩)
 by_cases h3:m = -3
 .subst h3;go_enter Tryz.func135,Tryz.ntmps135;go_wp2
  all_goals (go_ret2;exact⟨bP (by simp_all[yA]),rfl⟩)
 have b1:(m == -1)=false:=by simpa using h1
 have b2:(m == -2)=false:=by simpa using h2
 have b3:(m == -3)=false:=by simpa using h3
 have b:=qh (show yA m k a=(a,m == k) by unfold yA;rw[if_neg h1,if_neg h2,if_neg h3]);clear h1 h2 h3;go_enter Tryz.func135,Tryz.ntmps135;go_wp2;go_ret2;exact⟨bP (by rw[b.o];rfl),rfl⟩
def vI (args:List Int):List Int->Nat->Int->Option Int
 | [],_,so=>some so
 | k :: r,i,so=>if (yA (args.getD (min i (args.length - 1)) 0) k so).2 then vI args r (i+1) (yA (args.getD (min i (args.length - 1)) 0) k so).1 else none
def qo (op:Int) (ks:List Int):Int × Bool:=match vI (eU op) ks 0 0 with
 | none=>(0,false)
 | some so=>(if vG op<0 then so else vG op,true)
theorem Uw (a:Int) (b:1<=a) (c:a<=39):1<=(eU a).length/\(eU a).length<=3:=by
 obtain rfl | rfl | rfl | rfl | rfl | rfl | rfl | rfl | rfl | rfl | rfl | rfl | rfl | rfl | rfl | rfl | rfl | rfl | rfl | rfl | rfl | rfl | rfl | rfl | rfl | rfl | rfl | rfl | rfl | rfl | rfl | rfl | rfl | rfl | rfl | rfl | rfl | rfl | rfl:a=1\/a=2\/a=3\/a=4\/a=5\/a=6\/a=7\/a=8\/a=9\/a=10\/a=11\/a=12\/a=13\/a=14\/a=15\/a=16\/a=17\/a=18\/a=19\/a=20\/a=21\/a=22\/a=23\/a=24\/a=25\/a=26\/a=27\/a=28\/a=29\/a=30\/a=31\/a=32\/a=33\/a=34\/a=35\/a=36\/a=37\/a=38\/a=39:=by omega
 all_goals decide
theorem II (a:Int) (ks:List Int) (A:Option Addr) (c B:Nat) (w:World) (Y:1<=a) (R:a<=39) (hk:ks.length<=maxLen) (Z:Reads w B 1 A ks.length (bI a6 ks)) (hB:B<=w.heap.size) :
  IE 91 #[a3 a6 a,a8 A ks.length c] w (.tuple #[a3 a6 (qo a ks).1,ba (qo a ks).2]):=by
 have HX:=qh Z;have HS:=qh (λ w'=>DF a w' Y R);obtain⟨F,I⟩:=Uw a Y R;obtain⟨L,N⟩:=af ((eU a).length);obtain⟨rs,p⟩:=af (vG a);obtain⟨m,T⟩:=af (qm a);have E:=qh N;have r:=qh p;have HM:=qh T;rw[N] at F I;unfold maxLen at hk;clear Z N p T;go_enter Tryz.func91,Tryz.ntmps91;go_wp2_with fail;refine (HS.o w).mono ?_;rintro e n ⟨rfl,v,g⟩;rw[E.o,r.o,HM.o];have o:=qh v;clear v;go_upto_region 3 with (fail);obtain⟨W,t⟩:=aC (n.alloc (.cells #[a8 (some ⟨w.heap.size+1,0,none⟩) L L,a3 a6 rs,ba m] 231 (0,0)));have b:IY w W:=t▸g.alloc g.size _;have M:Below B w W:=b.mono hB;have z:ah W n.heap.size 231 #[a8 (some ⟨w.heap.size+1,0,none⟩) L L,a3 a6 rs,ba m]:=t▸ah.new n _ _;have P:=qh (show ah W (w.heap.size+1) 3 (bI a6 (eU a)).toArray from t▸o.o.alloc _);rw[<- t];clear t g o;have ak:W.cell? ⟨n.heap.size,0,none⟩=some (a8 (some ⟨w.heap.size+1,0,none⟩) L L):=z.cell 0;have BP:W.cell? ⟨n.heap.size,1,none⟩=some (a3 a6 rs):=z.cell 1;have aa:W.cell? ⟨n.heap.size,2,none⟩=some (ba m):=z.cell 2;have H:=qh (HX.o.below M);clear z;go_wp2
 go_loop [16,7,8,9,10,11] (λ i so u8 u9 u10 u11=>∃ (k:Nat) (s:Int),k<=ks.length/\i = a3 a6 k/\so = a3 a6 s/\Hid (vI (eU a) ks 0 0=vI (eU a) (ks.drop k) k s)) (λ i _ _ _ _ _=>ks.length - (intOf i).toNat)
 case atStart=>exact⟨0,0,bg _,rfl,rfl,qh rfl⟩
 case round =>
  obtain⟨k,s,ae,rfl,rfl,D⟩:=hrel;by_cases hlt:k<ks.length
  .obtain⟨ad,u,rfl,hb,Q,h⟩:=H.o.at_ hlt;obtain⟨al,rfl⟩:=jm _ _ _ _ Q;obtain⟨x,d⟩:=af (ks[k]);rw[d] at h;obtain⟨q,X⟩:=af (min k (L - 1));have C:q<L:=by omega
   have J:min (k:Int) ((L:Int) - 1)=(q:Nat):=by omega
   have l:q<(eU a).length:=by rw[E.o];exact C
   obtain⟨mk,j⟩:=af ((eU a).getD q 0);have mc:W.cell? ⟨w.heap.size+1,q,none⟩=some (a3 a6 mk):=by
    rw[P.o.cell q];simp only[bI,List.getElem?_toArray,bm,bq l,Option.map_some];rw[<- j];simp[List.getD,l]
   obtain⟨f,O⟩:=af (yA mk x s);obtain⟨S,V⟩:=f;have HF:=qh O;have U:=qh (show vI (eU a) (ks.drop k) k s=if V then vI (eU a) (ks.drop (k+1)) (k+1) S else none by
    rw[bi hlt,d,vI,E.o,X,j,O])
   have aW:=qh hlt;have ab:(0:Int)<=(q:Nat):=by omega
   have am:(q:Int)<(L:Nat):=by omega
   have ac:(0:Int)<=(L:Int) - 1:=by omega
   clear Q d X j O l;go_upto_region 7 with (fail);clear J;go_wp2_with fail;refine (Uu mk x s W).mono ?_;rw[HF.o];rintro e w2 ⟨rfl,rfl⟩;cases V
   .have y:=qh (show qo a ks=(0,false) by
     unfold qo;rw[D.o,U.o];rfl)
    go_wp2;go_ret2;exact⟨bP (by rw[y.o];rfl),b⟩
   .have G:=qh (D.o.trans U.o);go_wp2
    go_round
    case rel=>exact⟨k+1,S,aW.o,by go_num,rfl,G⟩
    case measure =>
     have:=aW.o;simp[intOf];omega
  .have y:=qh (show qo a ks=(if rs<0 then s else rs,true) by
    unfold qo;rw[D.o,bj (by omega),r.o];rfl)
   by_cases hr:rs<0
   .have K:=qh (show qo a ks=(s,true) by rw[y.o,if_pos hr]);go_wp2;go_ret2;exact⟨bP (by rw[K.o];rfl),b⟩
   .have K:=qh (show qo a ks=(rs,true) by rw[y.o,if_neg hr]);go_wp2;go_ret2;exact⟨bP (by rw[K.o];rfl),b⟩
def Jl (op k:Int):Int:=if op=1\/op=2 then 2 else if op=3\/op=4 then 7 else k
def NJ (op k:Int):Bool:=if op=1 then k == 2 else if op=2\/op=3\/op=4 then k == 7 else k == 2 || k == 6
theorem Xt (a k:Int) (w:World) (b:1<=a) (c:a<=6) :
  KG 133 #[a3 a6 a,a3 a6 k] w (.tuple #[a3 a6 (Jl a k),ba (NJ a k)]):=by
 obtain rfl | rfl | rfl | rfl | rfl | rfl:a=1\/a=2\/a=3\/a=4\/a=5\/a=6:=by omega
 all_goals
  go_enter Tryz.func133,Tryz.ntmps133;go_wp2
  all_goals
   go_ret2;exact⟨bP (by simp_all[Jl,NJ]),rfl⟩
theorem abp (a k:Int) (c:1<=a) (b:a<=6):vH a k=if NJ a k then (Jl a k,0) else (0,8):=by
 obtain rfl | rfl | rfl | rfl | rfl | rfl:a=1\/a=2\/a=3\/a=4\/a=5\/a=6:=by omega
 all_goals
  simp only[vH,NJ,Jl,nC];by_cases h2:k=2
  .subst h2;rfl
  by_cases b:k=6
  .subst b;rfl
  by_cases h7:k=7
  .subst h7;rfl
  simp[h2,b,h7]
theorem zg (a:Bool) (k:Int) (W:World):∀ w':World,IY W w'->IE 267 #[ba a,a3 a6 k] w' (.tuple #[a3 a6 (nC a k).1,a3 a6 (nC a k).2]):=
 λ w' _=>(fits_any a k w').mono λ _ _ ⟨c,b⟩=>⟨c,b▸Below.refl _ _⟩
def vY (ks:List Int) (i:Nat):Int:=ks.getD i 0
def vJ (op:Int) (ks:List Int):Int × Int:=
 if op=1\/op=2\/op=3 then nC (allB ks 7) 7 else
 if op=4\/op=5 then nC (vY ks 0 == vY ks 1) 7 else
 if op=6\/op=7\/op=8\/op=9 then nC (allB ks 2 || allB ks 6) 7 else
 if op=10 then nC (vY ks 0 == 4 && vY ks 1 == 5) 7 else if op=11 then nC (vY ks 0 == 5 && vY ks 1 == 4) 7 else
 if op=12\/op=13 then (7,0) else if op=14 then (2,0) else
 if op=24\/op=25 then nC (allB ks 2 || allB ks 6) (vY ks 0) else
 if op=26 then nC (vY ks 0 == 7 && vY ks 1 == vY ks 2) (vY ks 1) else if op=27 then nC (vY ks 0 == vY ks 1) (vY ks 0) else
 if op=28 then nC (vY ks 0 == 5 || vY ks 0 == 3) 2 else if op=29 then nC (vY ks 0 == 4) 2 else
 if op=30\/op=31 then nC (allB ks 3) 3 else if op=32\/op=33 then nC (allB ks 3) 7 else
 if op=34\/op=35\/op=36\/op=37\/op=38 then nC (allB ks 6) 2 else
 if op=39 then nC (vY ks 0 == 6 && vY ks 1 == 2) 6 else nC (allB ks 2) 2
end Go.Proofs.YtcnagconagpkcaaGreatDoor
namespace Go.Proofs.YtcnagconagpkcaaGreatDoor
def Xu (ks:List Int):Prop:=∀ k∈ks,2<=k/\k<=7
def eqO (op:Int) (ks:List Int):Bool:=decide (vJ op ks=if (qo op ks).2 then ((qo op ks).1,0) else (0,8))
def zh:List Int:=[2,3,4,5,6,7]
theorem pY {k:Int} (h:2<=k/\k<=7):k∈zh:=by
 obtain rfl | rfl | rfl | rfl | rfl | rfl:k=2\/k=3\/k=4\/k=5\/k=6\/k=7:=by omega
 all_goals decide
def abq:List Int:=[1,12,13,14,20,21,22,23,28,29,30,34,35,36]
def ops2:List Int:=[4,5,6,7,8,9,10,11,15,16,17,18,19,27,31,32,33,37,38,39]
theorem all1:(abq.all λ b=>zh.all λ a=>eqO b [a])=true:=by decide +kernel
theorem all2:(ops2.all λ c=>zh.all λ a=>zh.all λ b=>eqO c [a,b])=true:=by decide +kernel
theorem ajU:(zh.all λ a=>zh.all λ b=>zh.all λ d=>eqO 26 [a,b,d])=true:=by decide +kernel
theorem abr (r:List Int):∀ (i:Nat) (s:Int),vI [7] r i s=if allB r 7 then some s else none:=by
 induction r with
 | nil=>intro i s;rfl
 | cons a r ih =>
  intro i s;have e:([7]:List Int).getD (min i (([7]:List Int).length - 1)) 0=7:=by simp
  have c:yA 7 a s=(s,(7:Int) == a):=by simp[yA]
  rw[vI,e,c];simp only;rw[ih];unfold allB;rw[bD];by_cases h:a=7
  .subst h;simp
  .have b:((7:Int) == a)=false:=by simpa using λ e=>h e.symm
   rw[b];simp[h]
theorem Xv (r:List Int):∀ (i:Nat) (s:Int),s=2\/s=6->vI [-2] r i s=if allB r s then some s else none:=by
 induction r with
 | nil=>intro i s _;rfl
 | cons a r ih =>
  intro i s c;have e:([-2]:List Int).getD (min i (([-2]:List Int).length - 1)) 0 = -2:=by simp
  have d:yA (-2) a s=(a,(a == 2 || a == 6) && (s == 0 || s == a)):=by simp[yA]
  rw[vI,e,d];simp only;unfold allB;rw[bD];by_cases h:a=s
  .subst h;rw[ih _ _ c];have b:((a == 2 || a == 6) && (a == 0 || a == a))=true:=by rcases c with rfl | rfl <;> decide
   rw[b];simp[allB]
  .have b:((a == 2 || a == 6) && (s == 0 || s == a))=false:=by
    rcases c with rfl | rfl <;> simp <;> omega
   rw[b];simp[h]
theorem aen (c:Int) (ks:List Int) (s:1<=c) (p:c<=39) (f:(gV c).1<=ks.length/\ks.length<=(gV c).2) (g:Xu ks):vJ c ks=if (qo c ks).2 then ((qo c ks).1,0) else (0,8):=by
 by_cases hm:c=2\/c=3
 .have j:eU c = [7]:=by rcases hm with rfl | rfl <;> rfl
  have o:vG c=7:=by rcases hm with rfl | rfl <;> rfl
  have n:vJ c ks=nC (allB ks 7) 7:=by unfold vJ;rw[if_pos (by omega)]
  rw[n];unfold qo;rw[j,o,abr];cases allB ks 7 <;> rfl
 by_cases hm4:c=24\/c=25
 .have j:eU c = [-2]:=by rcases hm4 with rfl | rfl <;> rfl
  have o:vG c = -2:=by rcases hm4 with rfl | rfl <;> rfl
  have n:vJ c ks=nC (allB ks 2 || allB ks 6) (vY ks 0):=by rcases hm4 with rfl | rfl <;> rfl
  rw[n];unfold qo;rw[j,o];cases ks with
  | nil=>exfalso;rcases hm4 with rfl | rfl <;> simp[gV] at f
  | cons a r =>
   have e:([-2]:List Int).getD (min 0 (([-2]:List Int).length - 1)) 0 = -2:=by simp
   have q:yA (-2) a 0=(a,(a == 2 || a == 6) && ((0:Int) == 0 || (0:Int) == a)):=by simp[yA]
   rw[vI,e,q];simp only;have u:vY (a :: r) 0=a:=rfl;rw[u];by_cases ha2:a=2\/a=6
   .rw[Xv _ _ _ ha2];have l:((a == 2 || a == 6) && ((0:Int) == 0 || (0:Int) == a))=true:=by rcases ha2 with rfl | rfl <;> decide
    have k:(allB (a :: r) 2 || allB (a :: r) 6)=allB r a:=by
     rcases ha2 with rfl | rfl <;> simp[allB]
    rw[l,k];cases allB r a <;> rfl
   .have l:((a == 2 || a == 6) && ((0:Int) == 0 || (0:Int) == a))=false:=by simp;omega
    have k:(allB (a :: r) 2 || allB (a :: r) 6)=false:=by
     simp[allB];omega
    rw[l,k];rfl
 by_cases h26:c=26
 .subst h26;obtain⟨a,b,d,rfl⟩:∃ a b d,ks = [a,b,d]:=by
   have i:ks.length=3:=by simp[gV] at f;omega
   match ks,i with
   | [a,b,d],_=>exact⟨a,b,d,rfl⟩
  have:=be.1 (be.1 (be.1 ajU a (pY (g a (by simp)))) b (pY (g b (by simp)))) d (pY (g d (by simp)));exact of_decide_eq_true this
 by_cases h1':c∈abq
 .obtain⟨a,rfl⟩:∃ a,ks = [a]:=by
   have i:ks.length=1:=by
    have:gV c=(1,1):=by
     unfold abq at h1';simp only[br,bs,or_false] at h1';unfold gV;rw[if_neg (by omega),if_neg h26,if_pos (by omega)]
    rw[this] at f;simp at f;omega
   match ks,i with
   | [a],_=>exact⟨a,rfl⟩
  have:=be.1 (be.1 all1 c h1') a (pY (g a (by simp)));exact of_decide_eq_true this
 .have t:¬(c=1\/(12<=c/\c<=14)\/(20<=c/\c<=23)\/(28<=c/\c<=30)\/(34<=c/\c<=36)):=by
   intro h;refine h1' ?_;unfold abq;simp only[br,bs,or_false];omega
  have m:c∈ops2:=by
   unfold ops2;simp only[br,bs,or_false];omega
  obtain⟨a,b,rfl⟩:∃ a b,ks = [a,b]:=by
   have i:ks.length=2:=by
    have:gV c=(2,2):=by
     unfold gV;rw[if_neg (by omega),if_neg h26,if_neg t,if_pos ⟨s,p⟩]
    rw[this] at f;simp at f;omega
   match ks,i with
   | [a,b],_=>exact⟨a,b,rfl⟩
  have:=be.1 (be.1 (be.1 all2 c m) a (pY (g a (by simp)))) b (pY (g b (by simp)));exact of_decide_eq_true this
end Go.Proofs.YtcnagconagpkcaaGreatDoor
namespace Go.Proofs.YtcnagconagpkcaaGreatDoor
open Go.RowKit
attribute [local go_sem ↓] Go.wp_at_zero Go.wp_at_succ
theorem Xw (a:Int) (ks:List Int) (A:Option Addr) (c B:Nat) (w:World) (l:ks.length<=maxLen) (i:Reads w B 1 A ks.length (bI a6 ks)) (g:B<=w.heap.size) (d:a=1\/a=2\/a=3\/a=6\/a=7\/a=8\/a=9\/a=12\/a=13\/a=14\/a=15\/a=16) :
  IE 247 #[a3 a6 a,a8 A ks.length c] w (.tuple #[a3 a6 (vJ a ks).1,a3 a6 (vJ a ks).2]):=by
 have j:=qh (λ k w' (h:IY w w')=>mF ks A c B k w' l (i.below (h.mono g)) (bb g h.size));have b:=qh (Below.refl w.heap.size w);clear i;cases hn:allB ks 2
 all_goals
  rcases d with rfl | rfl | rfl | rfl | rfl | rfl | rfl | rfl | rfl | rfl | rfl | rfl
  all_goals
   go_enter Tryz.func247,Tryz.ntmps247;go_wp2_with (first | (go_at_call 268;(refine (j.o _ _ b.o).mono ?_);rintro _ n ⟨rfl,f⟩;have b:=qh (b.o.trans (f.mono b.o.size));clear f) | (go_at_call 267;(refine (fits_any _ _ _).mono ?_);rintro _ m ⟨rfl,rfl⟩));go_ret2;exact⟨bP (by simp_all[vJ,vY]),b.o⟩
theorem Xx (a:Int) (ks:List Int) (A:Option Addr) (c B:Nat) (w:World) (l:ks.length<=maxLen) (i:Reads w B 1 A ks.length (bI a6 ks)) (g:B<=w.heap.size) (d:a=17\/a=18\/a=19\/a=20\/a=21\/a=22\/a=23\/a=30\/a=31\/a=32\/a=33\/a=34\/a=35) :
  IE 247 #[a3 a6 a,a8 A ks.length c] w (.tuple #[a3 a6 (vJ a ks).1,a3 a6 (vJ a ks).2]):=by
 have j:=qh (λ k w' (h:IY w w')=>mF ks A c B k w' l (i.below (h.mono g)) (bb g h.size));have b:=qh (Below.refl w.heap.size w);clear i;cases hn:allB ks 2
 all_goals
  rcases d with rfl | rfl | rfl | rfl | rfl | rfl | rfl | rfl | rfl | rfl | rfl | rfl | rfl
  all_goals
   go_enter Tryz.func247,Tryz.ntmps247;go_wp2_with (first | (go_at_call 268;(refine (j.o _ _ b.o).mono ?_);rintro _ n ⟨rfl,f⟩;have b:=qh (b.o.trans (f.mono b.o.size));clear f) | (go_at_call 267;(refine (fits_any _ _ _).mono ?_);rintro _ m ⟨rfl,rfl⟩));go_ret2;exact⟨bP (by simp_all[vJ,vY]),b.o⟩
theorem Xy (a:Int) (ks:List Int) (A:Option Addr) (c B:Nat) (w:World) (l:ks.length<=maxLen) (i:Reads w B 1 A ks.length (bI a6 ks)) (g:B<=w.heap.size) (d:a=36\/a=37\/a=38) :
  IE 247 #[a3 a6 a,a8 A ks.length c] w (.tuple #[a3 a6 (vJ a ks).1,a3 a6 (vJ a ks).2]):=by
 have j:=qh (λ k w' (h:IY w w')=>mF ks A c B k w' l (i.below (h.mono g)) (bb g h.size));have b:=qh (Below.refl w.heap.size w);clear i;cases hn:allB ks 2
 all_goals
  rcases d with rfl | rfl | rfl
  all_goals
   go_enter Tryz.func247,Tryz.ntmps247;go_wp2_with (first | (go_at_call 268;(refine (j.o _ _ b.o).mono ?_);rintro _ n ⟨rfl,f⟩;have b:=qh (b.o.trans (f.mono b.o.size));clear f) | (go_at_call 267;(refine (fits_any _ _ _).mono ?_);rintro _ m ⟨rfl,rfl⟩));go_ret2;exact⟨bP (by simp_all[vJ,vY]),b.o⟩
theorem NK (g:Int) (a:Int) (r:List Int) (A:Option Addr) (c B:Nat) (w:World) (x:(a :: r).length<=maxLen) (l:Reads w B 1 A (a :: r).length (bI a6 (a :: r))) (n:B<=w.heap.size) (j:g=24\/g=25\/g=28\/g=29) :
  IE 247 #[a3 a6 g,a8 A (a :: r).length c] w (.tuple #[a3 a6 (vJ g (a :: r)).1,a3 a6 (vJ g (a :: r)).2]):=by
 obtain⟨q,o,rfl,u,b⟩:=l.plain (by simp);have p:=qh (show ∀ h,IY w h->h.cell? ⟨q,o,none⟩=some (a3 a6 a) from λ h i=>Below.cell_of i (b 0 _ rfl));generalize d:a :: r=ks at *;have v:=qh (λ k w' (i:IY w w')=>mF ks (some ⟨q,o,none⟩) c B k w' x (l.below (i.mono n)) (bb n i.size));have f:=qh (Below.refl w.heap.size w);have s:=qh (show vY ks 0=a from by rw[<- d];rfl);have D:1<=ks.length:=by rw[<- d];simp
 clear l b d;cases hn:allB ks 2 <;> cases h5:(a == 5)
 all_goals
  have t:=qh h5;rcases j with rfl | rfl | rfl | rfl
  all_goals
   have y:=p.o _ f.o;go_enter Tryz.func247,Tryz.ntmps247;go_wp2_with (first | (go_at_call 268;(refine (v.o _ _ f.o).mono ?_);rintro _ C ⟨rfl,m⟩;have f:=qh (f.o.trans (m.mono f.o.size));clear m;have y:=p.o _ f.o) | (go_at_call 267;(refine (fits_any _ _ _).mono ?_);rintro _ z ⟨rfl,rfl⟩));go_ret2;exact⟨bP (by simp[vJ,s.o,hn,t.o]),f.o⟩
theorem Xz (i:Int) (a b:Int) (r:List Int) (A:Option Addr) (c B:Nat) (w:World) (C:(a :: b :: r).length<=maxLen) (o:Reads w B 1 A (a :: b :: r).length (bI a6 (a :: b :: r))) (q:B<=w.heap.size) (l:i=10\/i=11\/i=39) :
  IE 247 #[a3 a6 i,a8 A (a :: b :: r).length c] w (.tuple #[a3 a6 (vJ i (a :: b :: r)).1,a3 a6 (vJ i (a :: b :: r)).2]):=by
 obtain⟨n,m,rfl,y,d⟩:=o.plain (by simp);have s:=qh (show ∀ f,IY w f->f.cell? ⟨n,m,none⟩=some (a3 a6 a)/\f.cell? ⟨n,m+1,none⟩=some (a3 a6 b) from λ f j=>⟨Below.cell_of j (d 0 _ rfl),Below.cell_of j (d 1 _ rfl)⟩);generalize g:a :: b :: r=ks at *;have z:=qh (λ k w' (j:IY w w')=>mF ks (some ⟨n,m,none⟩) c B k w' C (o.below (j.mono q)) (bb q j.size));have h:=qh (Below.refl w.heap.size w);have v:=qh (show vY ks 0=a/\vY ks 1=b from by rw[<- g];exact⟨rfl,rfl⟩);have H:2<=ks.length:=by rw[<- g];simp
 clear o d g;cases hn:allB ks 2 <;> cases h4:(a == 4) <;> cases h5:(a == 5) <;> cases h6:(a == 6)
 all_goals
  have t:=qh h4;have x:=qh h5;have u:=qh h6;rcases l with rfl | rfl | rfl
  all_goals
   obtain⟨E,D⟩:=s.o _ h.o;go_enter Tryz.func247,Tryz.ntmps247;go_wp2_with (first | (go_at_call 268;(refine (z.o _ _ h.o).mono ?_);rintro _ G ⟨rfl,p⟩;have h:=qh (h.o.trans (p.mono h.o.size));clear p;obtain⟨E,D⟩:=s.o _ h.o) | (go_at_call 267;(refine (fits_any _ _ _).mono ?_);rintro _ F ⟨rfl,rfl⟩));go_ret2;exact⟨bP (by simp[vJ,v.o,hn,t.o,x.o,u.o]),h.o⟩
theorem XA (i:Int) (a b:Int) (r:List Int) (A:Option Addr) (c B:Nat) (w:World) (F:(a :: b :: r).length<=maxLen) (s:Reads w B 1 A (a :: b :: r).length (bI a6 (a :: b :: r))) (u:B<=w.heap.size) (o:i=4\/i=5) :
  IE 247 #[a3 a6 i,a8 A (a :: b :: r).length c] w (.tuple #[a3 a6 (vJ i (a :: b :: r)).1,a3 a6 (vJ i (a :: b :: r)).2]):=by
 obtain⟨q,p,rfl,D,d⟩:=s.plain (by simp);have v:=qh (show ∀ g,IY w g->g.cell? ⟨q,p,none⟩=some (a3 a6 a)/\g.cell? ⟨q,p+1,none⟩=some (a3 a6 b) from λ g j=>⟨Below.cell_of j (d 0 _ rfl),Below.cell_of j (d 1 _ rfl)⟩);generalize h:a :: b :: r=ks at *;have E:=qh (λ k w' (j:IY w w')=>mF ks (some ⟨q,p,none⟩) c B k w' F (s.below (j.mono u)) (bb u j.size));have f:=qh (Below.refl w.heap.size w);have x:=qh (show vY ks 0=a/\vY ks 1=b from by rw[<- h];exact⟨rfl,rfl⟩);have K:2<=ks.length:=by rw[<- h];simp
 clear s d h;cases hn:allB ks 2
 all_goals
  rcases o with rfl | rfl
  all_goals
   obtain⟨n,m⟩:=v.o _ f.o;go_enter Tryz.func247,Tryz.ntmps247;go_upto_region 10 with (first | (go_at_call 268;(refine (E.o _ _ f.o).mono ?_);rintro _ C ⟨rfl,t⟩;have f:=qh (f.o.trans (t.mono f.o.size));clear t n m;obtain⟨n,m⟩:=v.o _ f.o) | (go_at_call 267;(refine (fits_any _ _ _).mono ?_);rintro _ J ⟨rfl,rfl⟩));have z:=Later.cell n;have G:=Later.cell m;have H:=qh (λ y k=>Later.call (zg y k C));clear n m;refine aF (by kernel_rfl) (by kernel_rfl) ?_
   repeat (go_big_quiet_step (with_reducible exact H.o _ _ _))
   refine wpQuiet_nil ?_;intro I l;have f:=qh (f.o.trans ((dY l).mono f.o.size));clear l z G;go_wp2;go_ret2;exact⟨bP (by simp[vJ,x.o,hn]),f.o⟩
theorem XB (l:Int) (a b:Int) (r:List Int) (A:Option Addr) (c B:Nat) (w:World) (F:(a :: b :: r).length<=maxLen) (s:Reads w B 1 A (a :: b :: r).length (bI a6 (a :: b :: r))) (u:B<=w.heap.size) (o:l=27) :
  IE 247 #[a3 a6 l,a8 A (a :: b :: r).length c] w (.tuple #[a3 a6 (vJ l (a :: b :: r)).1,a3 a6 (vJ l (a :: b :: r)).2]):=by
 obtain⟨q,p,rfl,D,d⟩:=s.plain (by simp);have v:=qh (show ∀ g,IY w g->g.cell? ⟨q,p,none⟩=some (a3 a6 a)/\g.cell? ⟨q,p+1,none⟩=some (a3 a6 b) from λ g i=>⟨Below.cell_of i (d 0 _ rfl),Below.cell_of i (d 1 _ rfl)⟩);generalize h:a :: b :: r=ks at *;have E:=qh (λ k w' (i:IY w w')=>mF ks (some ⟨q,p,none⟩) c B k w' F (s.below (i.mono u)) (bb u i.size));have f:=qh (Below.refl w.heap.size w);have x:=qh (show vY ks 0=a/\vY ks 1=b from by rw[<- h];exact⟨rfl,rfl⟩);have K:2<=ks.length:=by rw[<- h];simp
 clear s d h;cases hn:allB ks 2
 all_goals
  rcases o with rfl
  all_goals
   obtain⟨n,m⟩:=v.o _ f.o;go_enter Tryz.func247,Tryz.ntmps247;go_upto_region 31 with (first | (go_at_call 268;(refine (E.o _ _ f.o).mono ?_);rintro _ C ⟨rfl,t⟩;have f:=qh (f.o.trans (t.mono f.o.size));clear t n m;obtain⟨n,m⟩:=v.o _ f.o) | (go_at_call 267;(refine (fits_any _ _ _).mono ?_);rintro _ J ⟨rfl,rfl⟩));have z:=Later.cell n;have G:=Later.cell m;have H:=qh (λ y k=>Later.call (zg y k C));clear n m;refine aF (by kernel_rfl) (by kernel_rfl) ?_
   repeat (go_big_quiet_step (with_reducible exact H.o _ _ _))
   refine wpQuiet_nil ?_;intro I j;have f:=qh (f.o.trans ((dY j).mono f.o.size));clear j z G;go_wp2;go_ret2;exact⟨bP (by simp[vJ,x.o,hn]),f.o⟩
theorem XC (n:Int) (a b d:Int) (r:List Int) (A:Option Addr) (c B:Nat) (w:World) (I:(a :: b :: d :: r).length<=maxLen) (u:Reads w B 1 A (a :: b :: d :: r).length (bI a6 (a :: b :: d :: r))) (x:B<=w.heap.size) (t:n=26) :
  IE 247 #[a3 a6 n,a8 A (a :: b :: d :: r).length c] w (.tuple #[a3 a6 (vJ n (a :: b :: d :: r)).1,a3 a6 (vJ n (a :: b :: d :: r)).2]):=by
 obtain⟨p,o,rfl,G,f⟩:=u.plain (by simp);have y:=qh (show ∀ g,IY w g->g.cell? ⟨p,o,none⟩=some (a3 a6 a)/\g.cell? ⟨p,o+1,none⟩=some (a3 a6 b)/\g.cell? ⟨p,o+2,none⟩=some (a3 a6 d) from λ g j=>⟨Below.cell_of j (f 0 _ rfl),Below.cell_of j (f 1 _ rfl),Below.cell_of j (f 2 _ rfl)⟩);generalize i:a :: b :: d :: r=ks at *;have H:=qh (λ k w' (j:IY w w')=>mF ks (some ⟨p,o,none⟩) c B k w' I (u.below (j.mono x)) (bb x j.size));have h:=qh (Below.refl w.heap.size w);have C:=qh (show vY ks 0=a/\vY ks 1=b/\vY ks 2=d from by rw[<- i];exact⟨rfl,rfl,rfl⟩);have O:3<=ks.length:=by rw[<- i];simp
 clear u f i;cases hn:allB ks 2 <;> cases h7:(a == 7)
 all_goals
  have z:=qh h7;rcases t with rfl
  all_goals
   obtain⟨s,q,m⟩:=y.o _ h.o;go_enter Tryz.func247,Tryz.ntmps247;go_upto_region 29 with (first | (go_at_call 268;(refine (H.o _ _ h.o).mono ?_);rintro _ F ⟨rfl,v⟩;have h:=qh (h.o.trans (v.mono h.o.size));clear v s q m;obtain⟨s,q,m⟩:=y.o _ h.o) | (go_at_call 267;(refine (fits_any _ _ _).mono ?_);rintro _ N ⟨rfl,rfl⟩));have E:=Later.cell s;have K:=Later.cell q;have J:=Later.cell m;have L:=qh (λ D k=>Later.call (zg D k F));clear s q m;refine aF (by kernel_rfl) (by kernel_rfl) ?_
   repeat (go_big_quiet_step (with_reducible exact L.o _ _ _))
   refine wpQuiet_nil ?_;intro M l;have h:=qh (h.o.trans ((dY l).mono h.o.size));clear l E K J;go_wp2;go_ret2;exact⟨bP (by simp[vJ,C.o,hn,z.o]),h.o⟩
end Go.Proofs.YtcnagconagpkcaaGreatDoor
namespace Go.Proofs.YtcnagconagpkcaaGreatDoor
open Go.RowKit
theorem Qx (f:Int) (ks:List Int) (A:Option Addr) (c B:Nat) (w:World) (m:1<=f) (n:f<=39) (k:(gV f).1<=ks.length/\ks.length<=(gV f).2) (i:ks.length<=maxLen) (g:Reads w B 1 A ks.length (bI a6 ks)) (j:B<=w.heap.size) :
  IE 247 #[a3 a6 f,a8 A ks.length c] w (.tuple #[a3 a6 (vJ f ks).1,a3 a6 (vJ f ks).2]):=by
 by_cases ga:f=1\/f=2\/f=3\/f=6\/f=7\/f=8\/f=9\/f=12\/f=13\/f=14\/f=15\/f=16
 .exact Xw f ks A c B w i g j ga
 by_cases gb:f=17\/f=18\/f=19\/f=20\/f=21\/f=22\/f=23\/f=30\/f=31\/f=32\/f=33\/f=34\/f=35
 .exact Xx f ks A c B w i g j gb
 by_cases gc:f=36\/f=37\/f=38
 .exact Xy f ks A c B w i g j gc
 have l:1<=(gV f).1/\(¬ (f=24\/f=25\/f=28\/f=29)->2<=(gV f).1):=by
  unfold gV;constructor
  .repeat' split
   all_goals omega
  .intro h
   repeat' split
   all_goals omega
 have k:=k.1
 match ks with
 | []=>rw[List.length_nil] at k;omega
 | [a] =>
  by_cases gd:f=24\/f=25\/f=28\/f=29
  .exact NK f a [] A c B w i g j gd
  have:=l.2 gd;rw[List.length_singleton] at k;omega
 | a :: b :: r =>
  by_cases gd:f=24\/f=25\/f=28\/f=29
  .exact NK f a (b :: r) A c B w i g j gd
  by_cases ge:f=10\/f=11\/f=39
  .exact Xz f a b r A c B w i g j ge
  by_cases gf:f=4\/f=5
  .exact XA f a b r A c B w i g j gf
  by_cases gg:f=27
  .exact XB f a b r A c B w i g j gg
  obtain rfl:f=26:=by omega
  match r with
  | []=>exact absurd (show 3<=2 from k) (by decide)
  | d :: r=>exact XC 26 a b d r A c B w i g j rfl
end Go.Proofs.YtcnagconagpkcaaGreatDoor
namespace Go.Proofs.YtcnagconagpkcaaGreatDoor
def wV (cells:List aG) (nm:ByteArray) (at_:List ByteArray):Int × Int:=match cells.find? (λ c=>decide (c.nm=nm) && eX c.loops at_) with
 | some c=>(c.kind,0)
 | none=>(0,5)
def vK (loops:List aQ) (nm:ByteArray) (at_:List ByteArray):Option (List ByteArray):=match loops.find? (λ n=>decide (n.nm=nm)) with
 | some n=>if eX n.loops at_ then some (n.loops ++ [n.nm]) else none
 | none=>none
mutual
def Ex.kind (cells:List aG) (loops:List aQ):Ex->List ByteArray->Int × Int
 | .mk k op nm v ar,at_ =>
  if k=1 then (v.k,0) else if k=2 then wV cells nm at_ else if k=3 then (if Lib.containsS at_ nm then (2,0) else (0,5)) else
  if k=5 then (match vK loops nm at_ with
   | none=>(0,5)
   | some at'=>qV cells loops ar at' op) else
  (match bW cells loops ar at_ [] with
   | (why,ks)=>if why≠0 then (0,why) else vJ op ks)
def qV (cells:List aG) (loops:List aQ):List Ex->List ByteArray->Int->Int × Int
 | [],_,_=>(0,0)
 | a :: _,at',op=>if (a.kind cells loops at').2≠0 then (0,(a.kind cells loops at').2) else vH op (a.kind cells loops at').1
def bW (cells:List aG) (loops:List aQ):List Ex->List ByteArray->List Int->Int × List Int
 | [],_,ks=>(0,ks)
 | a :: r,at_,ks=>if (a.kind cells loops at_).2≠0 then ((a.kind cells loops at_).2,ks) else bW cells loops r at_ (ks ++ [(a.kind cells loops at_).1])
end
theorem jX (a:List aG) (b:List aQ) (e:Ex) (at_:List ByteArray):e.kind a b at_ =
  if e.k=1 then (e.v.k,0) else if e.k=2 then wV a e.nm at_ else if e.k=3 then (if Lib.containsS at_ e.nm then (2,0) else (0,5)) else
  if e.k=5 then (match vK b e.nm at_ with
   | none=>(0,5)
   | some at'=>qV a b e.ar at' e.op) else
  (if (bW a b e.ar at_ []).1≠0 then (0,(bW a b e.ar at_ []).1) else vJ e.op (bW a b e.ar at_ []).2):=by
 cases e;rw[Ex.kind];rfl
theorem DJ (b:List aG) (a:List aQ) (ar:List Ex) (at_:List ByteArray) (ks:List Int) (k:Nat) (h:k<ar.length):bW b a (ar.drop k) at_ ks =
  if (ar[k].kind b a at_).2≠0 then ((ar[k].kind b a at_).2,ks) else bW b a (ar.drop (k+1)) at_ (ks ++ [(ar[k].kind b a at_).1]):=by
 rw[bi h,bW]
def okR (r:Int × Int):Prop:=r.2=0->2<=r.1/\r.1<=7
theorem oJ (a:Bool) (k:Int) (h:a=true->2<=k/\k<=7):okR (nC a k):=by
 unfold okR nC;cases a
 .intro h;exact absurd (show (8:Int)=0 from h) (by decide)
 .intro _;exact h rfl
theorem uk {p:Prop} [Decidable p] {a b:Int × Int} (c:p->okR a) (d:¬p->okR b):okR (if p then a else b):=by
 by_cases h:p
 .rw[if_pos h];exact c h
 .rw[if_neg h];exact d h
theorem XD (a k:Int) (h:2<=k/\k<=7):okR (vH a k):=by
 unfold vH;split
 .exact oJ _ _ λ _=>by omega
 split
 .exact oJ _ _ λ _=>by omega
 split
 .exact oJ _ _ λ _=>by omega
 .exact oJ _ _ λ _=>h
theorem Qy {ks:List Int} (h:Xu ks) {i:Nat} (a:i<ks.length):2<=vY ks i/\vY ks i<=7:=by
 unfold vY;rw[List.getD_eq_getElem?_getD,bq a];exact h _ (bo a)
theorem aeo (a:Int) (ks:List Int) (d:1<=a) (e:a<=39) (f:(gV a).1<=ks.length/\ks.length<=(gV a).2) (c:Xu ks):okR (vJ a ks):=by
 have b:∀ i,i<(gV a).1->i<ks.length:=λ i h=>by omega
 unfold vJ
 iterate 5 refine uk (λ _=>oJ _ _ λ _=>by omega) λ _=>?_
 refine uk (λ _ _=>⟨by decide,by decide⟩) λ _=>?_;refine uk (λ _ _=>⟨by decide,by decide⟩) λ _=>?_;refine uk (λ h=>oJ _ _ λ _=>Qy c (b 0 (by rcases h with rfl | rfl <;> decide))) λ _=>?_;refine uk (λ h=>oJ _ _ λ _=>Qy c (b 1 (by subst h;decide))) λ _=>?_;refine uk (λ h=>oJ _ _ λ _=>Qy c (b 0 (by subst h;decide))) λ _=>?_
 iterate 6 refine uk (λ _=>oJ _ _ λ _=>by omega) λ _=>?_
 exact oJ _ _ λ _=>by omega
structure WOk (cells:List aG) (loops:List aQ):Prop where
 kinds:∀ c∈cells,2<=c.kind/\c.kind<=7
 aoN:cells.Pairwise (λ a b=>a.nm≠b.nm)
 aoO:loops.Pairwise (λ a b=>a.nm≠b.nm)
theorem Cf {d:List aG} {c:List aQ} {at_:List ByteArray}:∀ {ar:List Ex} {ks:List Int},(∀ a∈ar,okR (a.kind d c at_))->Xu ks->(bW d c ar at_ ks).1=0 ->
  Xu (bW d c ar at_ ks).2/\(bW d c ar at_ ks).2.length=ks.length+ar.length
 | [],ks,_,hk,_=>by rw[bW];exact⟨hk,by simp⟩
 | a :: r,ks,h,hk,h0=>by
  rw[bW] at h0 ⊢;by_cases hf:(a.kind d c at_).2=0
  .rw[if_neg (by rw[hf];decide)] at h0 ⊢;have:=Cf (λ b f=>h b (List.mem_cons_of_mem _ f)) (ks:=ks ++ [(a.kind d c at_).1]) (by
    intro k e;rcases bA.1 e with q | q
    .exact hk k q
    .rw[bB] at q;rw[q];exact h a (bt ..) hf) h0
   refine⟨this.1,?_⟩;rw[this.2];simp;omega
  .rw[if_pos hf] at h0;exact absurd h0 hf
theorem SS {d:List aG} {b:List aQ} (q:WOk d b) (e:Ex):e.fault=0->∀ at_,okR (e.kind d b at_):=by
 induction e using Ex.ind with
 | h e ih =>
  intro i at_;have P:=kG (nX i);have j:=nY i;rw[jX];by_cases k1:e.k=1
  .rw[if_pos k1];intro _;exact P.c k1
  rw[if_neg k1];by_cases k2:e.k=2
  .rw[if_pos k2];unfold wV;split
   .rename_i c s;intro _;exact q.kinds c (List.mem_of_find?_eq_some s)
   .intro h;exact absurd h (by decide)
  rw[if_neg k2];by_cases k3:e.k=3
  .rw[if_pos k3];split
   .intro _;exact⟨by decide,by decide⟩
   .intro h;exact absurd h (by decide)
  rw[if_neg k3];by_cases k5:e.k=5
  .rw[if_pos k5];split
   .intro h;exact absurd h (by decide)
   .rename_i f _;have o:=P.a5 k5
    match hr:e.ar,o with
    | a :: r,_ =>
     rw[qV];have m:=ih a (by rw[hr];exact bt ..) (j a (by rw[hr];exact bt ..)) f;by_cases h0:(a.kind d b f).2=0
     .rw[if_neg (by rw[h0];decide)];exact XD _ _ (m h0)
     .rw[if_pos h0];intro h;exact absurd h h0
  rw[if_neg k5];have l:e.k=4:=by have:=P.k;omega
  by_cases h0:(bW d b e.ar at_ []).1=0
  .rw[if_neg (by rw[h0];decide)];obtain⟨n,p⟩:=P.op4 l;have k:=Cf (ks:=[]) (λ a g=>ih a g (j a g) at_) (λ _ h=>by cases h) h0;exact aeo _ _ n p (by rw[k.2];simpa using P.a4 l) k.1
  .rw[if_pos h0];intro h;exact absurd h h0
end Go.Proofs.YtcnagconagpkcaaGreatDoor
