/- Lemmas. -/
import Derived.Test.YtcnagconagpkcaaGreatDoorZ5
open Go.Value renaming int->bf, string->bh, slice->bi, pointer->bj, bool->bk, oneCell'->bn
open Go.IntKind renaming i64->bg
open And renaming intro->bl
open Nat renaming le_trans->bm, zero_le->bo, lt_of_lt_of_le->br, le_refl->bs, lt_or_ge->bx
open List renaming length_take->bp, take_succ_eq_append_getElem->bt, take_length->bw, drop_eq_getElem_cons->bz, getElem?_eq_getElem->bA, drop_length->bB, any_eq_true->bE, getElem_mem->bL
open Classical renaming em->bq
open Go.ByteArray renaming toList_eq->bv
set_option maxHeartbeats 4000000
set_option maxRecDepth 100000
namespace Go.Proofs.YtcnagconagpkcaaGreatDoor
open Tryz
open Tryz renaming prog->lM
open Go.RowKit
attribute [local go_sem ↓] Go.wp_at_zero Go.wp_at_succ ld_item st_item ld_node st_node ld_ans st_ans ld_part st_part ld_rule st_rule ld_form st_form
theorem ND {N:List au} {k:Nat} (a:k<N.length):jG (N.take (k+1))=if N[k].it.k=3 then jG (N.take k) ++ [⟨N[k].it.nm,N[k].lo⟩] else jG (N.take k):=by
 unfold jG;rw[bt a,List.filter_append,List.map_append,List.filter_cons,List.filter_nil];by_cases h:N[k].it.k=3
 .rw[if_pos h,if_pos (by simpa using h)];rfl
 .rw[if_neg h,if_neg (by simpa using h)];simp
theorem EX {N:List au} (k:Nat):(jG (N.take k)).length<=k:=by
 unfold jG;rw[List.length_map];exact bm (List.length_filter_le _ _) (by rw[bp];omega)
theorem Yb:(lM.info? 184).map (λ i=>(i.zero,i.size,i.bytes))=some (some (.agg #[.string ⟨#[]⟩,.slice none 0 0]),2,40):=by kernel_rfl
theorem UR {w:World} {B0 gb m1 m2 m3:Nat} {x:jS} {f:aI} {N:List au} {K:aY} (h:aT w B0 gb m1 m2 m3 x f N K) :
  Calls lM 69 #[bj (some ⟨gb,0,none⟩)] w λ e w'=>(∃ v,e = .returned v/\Dq 184 2 EP w' w.heap.size v (jG N))/\DD w w':=by
 obtain⟨i0,ak,am,ae,Z⟩:=info_parts Yb;have an:=h.cap;have tq:=h.nodes.1;have c5:w.cell? ⟨gb,5,none⟩=some (bi x.AN N.length x.cn):=h.blk.cell 5;have kF:=qh h;obtain⟨AN,LQ⟩:=af (x.AN);have aa:=qh LQ;rw[LQ] at c5;clear h LQ;go_enter func69,ntmps69;go_wp2;clear c5;go_loopw [11,3] (λ i v wr=>∃ k:Nat,i = bf bg k/\k<=N.length/\Dq 184 2 EP wr w.heap.size v (jG (N.take k))/\DD w wr) (λ i _ _=>302 - (intOf i).toNat)
 case atStart=>exact⟨0,rfl,bo _,by rw[List.take_zero];exact Dq.nil,Below.refl _ _⟩
 case round =>
  obtain⟨k,rfl,hk,q,X⟩:=hrel;have q:=qh q;have hs:=X.size;by_cases hlt:k<N.length
  .have JL:=qh (kF.o.keep X);obtain⟨ad,A1,c1,A2,c2,A3,c3,A4,c4,A5,c5,B1,b1,B2,b2,B3,b3,A,c,hA,PU,hit,z,hc⟩:=JL.o.pG hlt;obtain rfl:AN=some ad:=aa.o.symm.trans hA;obtain⟨d,hd⟩:=af (N[k]);have t:=qh (ND hlt);rw[hd] at hc t z hit;have J:d.it.nm.size<=maxLen:=by cases hit;assumption
   obtain⟨cs,b⟩:∃ cs:List Value,[bf bg d.it.k,bh d.it.nm,bi A1 d.it.iff.length c1,bi A2 d.it.ph.length c2,bi A3 d.it.items.length c3,bk d.it.sh,bi A4 d.it.cnt.length c4,bh d.it.over,bf bg d.it.ans.k,bf bg d.it.ans.lo,bf bg d.it.ans.hi,bf bg d.it.ans.pl,bh d.it.ans.ls,bi B1 d.it.ans.only.length b1,bk d.it.ans.sh,bi B2 d.it.ans.rs.length b2,bk d.it.ans.need,bi B3 d.it.ans.ch.length b3,bi A5 d.it.cmp.length c5,bf bg d.par,bf bg d.jA,bf bg d.dm,bi A d.lo.length c]=cs:=⟨_,rfl⟩;have qL:cs.length=23:=by subst b;rfl
   have JM:=ES (w:=wr) qL (ad:=ad.add (k*23)) (λ j u hu=>hc j u (by subst b;exact hu));have Qs:=Ny (w:=wr) qL (by subst b;simp[bn]);obtain⟨W,T⟩:=aG (wr.alloc (.cells cs.toArray 110 (0,0)));have H:DD wr W:=T▸az wr _;have m:=X.trans (H.mono hs);have R:ah W wr.heap.size 110 cs.toArray:=T▸ah.new wr _ _;have q0:W.cell? ⟨wr.heap.size,0,none⟩=some (bf bg d.it.k):=by rw[R.cell 0];subst b;rfl
   have q1:W.cell? ⟨wr.heap.size,1,none⟩=some (bh d.it.nm):=by rw[R.cell 1];subst b;rfl
   have D:W.cell? ⟨wr.heap.size,22,none⟩=some (bi A d.lo.length c):=by rw[R.cell 22];subst b;rfl
   have HQ:=qh (show cs.toArray[1]?=some (bh d.it.nm)/\cs.toArray[22]?=some (bi A d.lo.length c) by subst b;exact⟨rfl,rfl⟩);have Y:=qh hlt;have F:=qh (bl z J);have V:=qh R;clear b qL hit z hc PU JL hA hd J;clear R;go_upto_region 5 with (fail);rw[<- T];clear JM Qs T;by_cases h3:d.it.k=3
   .have ag:(d.it.k == 3)=true:=by simp[h3]
    have U:=qh (t.o.trans (if_pos h3));have ab:=EX (N:=N) k;obtain⟨L,hL⟩:=af (jG (N.take k));rw[hL] at U ab q;have Jv:=qh (q.o.keep mJ H);clear h3 hL q;go_upto_region 6 with (fail);have r:=Below.refl W.heap.size W;have ac:=m.size;obtain⟨xs,p,M⟩:=Jv.o;have HX:=qh (bl p M);have K1:=qh (show ∀ w',DD W w'->Calls lM 38 #[bi A d.lo.length c] w' λ e O=>∃ v,e = .returned v/\O.ownsRow W.heap.size 9 1 v d.lo.length (dP d.lo)/\DD W O from λ w' l =>
     (cloneS d.lo A c wr.heap.size w' (F.o.1.1.1.below ((H.trans (l.mono H.size)))) (by have:=F.o.1.2;omega)).mono λ _ _ ⟨v,he,ho,hk⟩=>⟨v,he,own_base ho l.size,l.trans (hk.mono l.size)⟩)
    have S:=qh (show ∀ w',DD W w'->w'.cell? ⟨wr.heap.size,1,none⟩=some (bh d.it.nm)/\w'.cell? ⟨wr.heap.size,22,none⟩=some (bi A d.lo.length c)/\DD w w' from λ w' l=>⟨Below.cell_of l q1,Below.cell_of l D,m.trans (l.mono m.size)⟩);clear q0 q1 D p M;go_region_held3 (λ w'=>w'.cell? ⟨wr.heap.size,1,none⟩=some (bh d.it.nm)/\w'.cell? ⟨wr.heap.size,22,none⟩=some (bi A d.lo.length c)/\DD w w')
     (first | exact S.o _ r | exact S.o _ r.drew | exact S.o _ a | exact S.o _ (a.alloc a.size _) | exact G)
     (first
      | (go_at_call 38;(with_reducible refine (K1.o _ r.drew).mono ?_);rintro e1 w1 ⟨v,rfl,I,a⟩;obtain⟨Q,E,rfl⟩:=dX I;have p:=aQ HX.o.1 a;have P:=p.alloc (.cells #[bh d.it.nm,bi Q d.lo.length E] 184 (0,0)))
      | (refine step_append_lies _ rfl _ _ 41 rfl w.heap.size 184 i0 (.agg #[.string ⟨#[]⟩,.slice none 0 0]) 2 40 underlying41 ak am ae Z rfl (by decide) _ L.length xs rfl P ⟨w1.heap.size,0,none⟩ 1 1 [.string d.it.nm,.slice Q d.lo.length E] rfl rfl (by intro j u B;match j,B with | 0,B=>(cases B;simp[go_sem]) | 1,B=>(cases B;simp[go_sem]) | j+2,B=>simp at B) (by simp[bn]) (by decide) (by unfold maxLen;omega) (by omega) (by have:=a.size;simp;omega) _ rfl ?_;intro g4 ao w4 n o _ _;have y:=((V.o.below a V.o.lt).alloc (.cells #[.string d.it.nm,.slice Q d.lo.length E] 184 (0,0))).grown o (λ e=>gu P ((V.o.below a V.o.lt).alloc _) (by decide) e.symm);have G:w4.cell? ⟨wr.heap.size,1,none⟩=some (.string d.it.nm)/\w4.cell? ⟨wr.heap.size,22,none⟩=some (.slice A d.lo.length c)/\DD w w4:=⟨(y.cell 1).trans HQ.o.1,(y.cell 22).trans HQ.o.2,((m.trans (a.mono m.size)).alloc (by have:=a.size;omega) _).grown o (by have:=a.size;simp;omega) (λ g hg=>(P.lt g hg).1)⟩))
    all_goals
     have Dt:=az w1 (.cells #[bh d.it.nm,bi Q d.lo.length E] 184 (0,0));have C:=Dq.snoc mJ (d:=(⟨d.it.nm,d.lo⟩:bU)) P (λ i hi=>mJ.later (mJ.later (HX.o.2 i hi) a) Dt) (mJ.later ⟨Q,E,rfl,own_base I ac,F.o.2,by have:=F.o.1.2;show d.lo.length<=maxLen;unfold maxLen;omega,λ s hs=>F.o.1.1.2.2.2 s hs⟩ Dt) rfl n o;have sF:=qh C;have al:=G.2.2;clear C P n o y;go_wp2;go_roundw
     case rel=>exact⟨k+1,by go_num,Y.o,by rw[U.o];exact sF.o,al⟩
     case measure =>
      have:=Y.o;simp[intOf];omega
   .have ag:(d.it.k == 3)=false:=by simp[h3]
    have U:=qh (t.o.trans (if_neg h3));clear h3;go_wp2;go_roundw
    case rel=>exact⟨k+1,by go_num,Y.o,by rw[U.o];exact q.o.keep mJ H,m⟩
    case measure =>
     have:=Y.o;simp[intOf];omega
  .have e:k=N.length:=by omega
   subst e;rw[bw] at q;go_wp2;go_ret;exact⟨⟨_,rfl,q.o⟩,X⟩
theorem iP {a c:Int} (h:a=c):(a == c)=true/\(a != c)=false:=by simp[h]
theorem fH {a c:Int} (h:¬ a=c):(a == c)=false/\(a != c)=true:=by simp[h]
theorem ame {n:Nat} (h:n=0):((n:Int) == 0)=true/\((n:Int) != 0)=false:=by simp[h]
theorem amf {n:Nat} (h:¬ n=0):((n:Int) == 0)=false/\((n:Int) != 0)=true:=by simp[h]
theorem amg {n:Nat} (h:n=1):((n:Int) == 1)=true/\((n:Int) != 1)=false:=by simp[h]
theorem amh {n:Nat} (h:¬ n=1):((n:Int) == 1)=false/\((n:Int) != 1)=true:=⟨beq_eq_false_iff_ne.2 (by omega),bne_iff_ne.2 (by omega)⟩
theorem ami {n:Nat} (h:0<n):0<n/\0<(n:Int)/\decide (0<(n:Int))=true:=⟨h,by omega,decide_eq_true (by omega)⟩
theorem amj {n:Nat} (h:¬ 0<n):¬ 0<n/\¬ 0<(n:Int)/\decide (0<(n:Int))=false:=⟨h,by omega,decide_eq_false (by omega)⟩
theorem amk {n:Nat} (h:1<n):1<n/\1<(n:Int)/\decide (1<(n:Int))=true:=⟨h,by omega,decide_eq_true (by omega)⟩
theorem aml {n:Nat} (h:¬ 1<n):¬ 1<n/\¬ 1<(n:Int)/\decide (1<(n:Int))=false:=⟨h,by omega,decide_eq_false (by omega)⟩
theorem EY {s:ByteArray}:s.toList = [] ↔ s=⟨#[]⟩:=by
 rw[bv];exact⟨λ h=>ByteArray.ext (Array.toList_eq_nil_iff.1 h),λ h=>by rw[h]⟩
theorem ah1 {s:ByteArray}:s.toList.isEmpty=decide (s=⟨#[]⟩):=by
 rw[Bool.eq_iff_iff,List.isEmpty_iff,EY,decide_eq_true_iff]
theorem ah2 {s:ByteArray} (h:s=⟨#[]⟩):s.toList.isEmpty=true/\s.toList = []:=⟨by rw[ah1];simp[h],EY.2 h⟩
theorem ah3 {s:ByteArray} (h:¬ s=⟨#[]⟩):s.toList.isEmpty=false/\¬ s.toList = []:=⟨by rw[ah1];simp[h],λ e=>h (EY.1 e)⟩
theorem xu (a c:Int):(a=c/\(a == c)=true/\(a != c)=false)\/(¬ a=c/\(a == c)=false/\(a != c)=true):=(bq (a=c)).elim (λ h=>.inl ⟨h,iP h⟩) (λ h=>.inr ⟨h,fH h⟩)
theorem Yc (n:Nat):(n=0/\((n:Int) == 0)=true/\((n:Int) != 0)=false)\/(¬ n=0/\((n:Int) == 0)=false/\((n:Int) != 0)=true):=(bq (n=0)).elim (λ h=>.inl ⟨h,ame h⟩) (λ h=>.inr ⟨h,amf h⟩)
theorem Ht (s:ByteArray):(s=⟨#[]⟩/\s.toList.isEmpty=true/\s.toList = [])\/(¬ s=⟨#[]⟩/\s.toList.isEmpty=false/\¬ s.toList = []):=(bq (s=⟨#[]⟩)).elim (λ h=>.inl ⟨h,ah2 h⟩) (λ h=>.inr ⟨h,ah3 h⟩)
theorem UT {w:World} {a:lN} {B1:Option Addr} {b1:Nat} {B2:Option Addr} {b2:Nat} {B3:Option Addr} {b3:Nat} :
  CS 170 #[.agg (BO a B1 b1 B2 b2 B3 b3)] w (bk (Iw a)):=by
 obtain⟨W,h⟩:=aG (w.alloc (.cells (BO a B1 b1 B2 b2 B3 b3) 57 (0,0)));have l:DD w W:=h▸az w _;have b:ah W w.heap.size 57 (BO a B1 b1 B2 b2 B3 b3):=h▸ah.new w _ _;have V:W.cell? ⟨w.heap.size,0,none⟩=some (bf bg a.k):=b.cell 0;have Z:W.cell? ⟨w.heap.size,1,none⟩=some (bf bg a.lo):=b.cell 1;have Y:W.cell? ⟨w.heap.size,2,none⟩=some (bf bg a.hi):=b.cell 2;have q3:W.cell? ⟨w.heap.size,3,none⟩=some (bf bg a.pl):=b.cell 3;have U:W.cell? ⟨w.heap.size,4,none⟩=some (bh a.ls):=b.cell 4;have X:W.cell? ⟨w.heap.size,5,none⟩=some (bi B1 a.only.length b1):=b.cell 5;have R:W.cell? ⟨w.heap.size,6,none⟩=some (bk a.sh):=b.cell 6;have S:W.cell? ⟨w.heap.size,7,none⟩=some (bi B2 a.rs.length b2):=b.cell 7;have Q:W.cell? ⟨w.heap.size,8,none⟩=some (bk a.need):=b.cell 8;have T:W.cell? ⟨w.heap.size,9,none⟩=some (bi B3 a.ch.length b3):=b.cell 9;clear b;go_enter func170,ntmps170;go_upto_region 1 with (fail);rw[<- h];clear h;obtain⟨x,d⟩:=af (a.sh);have C:=qh d;rw[d] at R;clear d;obtain⟨v,c⟩:=af (a.need);have K:=qh c;rw[c] at Q;clear c;generalize P:a.only.length=n5 at *;have s:=qh P;clear P;generalize g:a.rs.length=n7 at *;have A:=qh g;clear g;generalize f:a.ch.length=n9 at *;have y:=qh f;clear f;rcases xu a.k 0 with ⟨H,J,z⟩ | ⟨H,J,z⟩;rcases xu a.lo 0 with ⟨L,D,i⟩ | ⟨L,D,i⟩;rcases xu a.hi 0 with ⟨o,F,O⟩ | ⟨o,F,O⟩;rcases xu a.pl 0 with ⟨q,N,r⟩ | ⟨q,N,r⟩;rcases Ht a.ls with ⟨m,n,I⟩ | ⟨m,n,I⟩;rcases Yc n5 with ⟨t,j,E⟩ | ⟨t,j,E⟩;cases x;rcases Yc n7 with ⟨p,G,B⟩ | ⟨p,G,B⟩;cases v;rcases Yc n9 with ⟨u,M,k⟩ | ⟨u,M,k⟩;rotate_left;rotate_left;rotate_left;rotate_left;rotate_left;rotate_left;rotate_left;rotate_left;rotate_left;rotate_left;rotate_left
 all_goals
  first
   | (exfalso;omega)
   | (go_wp2;go_ret;refine⟨aH ?_,l⟩;unfold Iw;simp[C.o,K.o,s.o,A.o,y.o, *] <;> omega)
theorem NF (k:Int) (w:World):E5 171 #[bf bg k] w (.tuple #[bf bg (Ho k).1,bf bg (Ho k).2]):=by
 by_cases h2:k=2
 .subst h2;go_enter func171,ntmps171;go_wp2;go_ret2;exact⟨rfl,rfl⟩
 have f:(k == 2)=false:=by simp[h2]
 by_cases h6:k=6
 .subst h6;go_enter func171,ntmps171;go_wp2;go_ret2;exact⟨rfl,rfl⟩
 have c:(k == 6)=false:=by simp[h6]
 by_cases h3:k=3
 .subst h3;go_enter func171,ntmps171;go_wp2;go_ret2;exact⟨rfl,rfl⟩
 have d:(k == 3)=false:=by simp[h3]
 by_cases h5:k=5
 .subst h5;go_enter func171,ntmps171;go_wp2;go_ret2;exact⟨rfl,rfl⟩
 have b:(k == 5)=false:=by simp[h5]
 have a:=qh (show Ho k=(0,0) by unfold Ho;rw[if_neg h2,if_neg h6,if_neg h3,if_neg h5]);clear h2 h6 h3 h5;go_enter func171,ntmps171;go_wp2;go_ret2;rw[a.o];exact⟨rfl,rfl⟩
theorem UW {w:World} {a:lN} {B1:Option Addr} {b1:Nat} {B2:Option Addr} {b2:Nat} {B3:Option Addr} {b3:Nat} :
  CS 172 #[.agg (BO a B1 b1 B2 b2 B3 b3)] w (bk (SL a)):=by
 obtain⟨W,y⟩:=aG (w.alloc (.cells (BO a B1 b1 B2 b2 B3 b3) 57 (0,0)));have z:DD w W:=y▸az w _;have h:ah W w.heap.size 57 (BO a B1 b1 B2 b2 B3 b3):=y▸ah.new w _ _;have N:W.cell? ⟨w.heap.size,0,none⟩=some (bf bg a.k):=h.cell 0;have R:W.cell? ⟨w.heap.size,1,none⟩=some (bf bg a.lo):=h.cell 1;have Q:W.cell? ⟨w.heap.size,2,none⟩=some (bf bg a.hi):=h.cell 2;have S:W.cell? ⟨w.heap.size,3,none⟩=some (bf bg a.pl):=h.cell 3;have M:W.cell? ⟨w.heap.size,4,none⟩=some (bh a.ls):=h.cell 4;have O:W.cell? ⟨w.heap.size,5,none⟩=some (bi B1 a.only.length b1):=h.cell 5;have J:W.cell? ⟨w.heap.size,6,none⟩=some (bk a.sh):=h.cell 6;have K:W.cell? ⟨w.heap.size,7,none⟩=some (bi B2 a.rs.length b2):=h.cell 7;have P:W.cell? ⟨w.heap.size,8,none⟩=some (bk a.need):=h.cell 8;have L:W.cell? ⟨w.heap.size,9,none⟩=some (bi B3 a.ch.length b3):=h.cell 9;clear h;go_enter func172,ntmps172;go_upto_region 1 with (fail);rw[<- y];clear y;obtain⟨x,l⟩:=af (a.sh);have F:=qh l;rw[l] at J;clear l;generalize I:a.only.length=n5 at *;have C:=qh I;clear I;rcases xu a.k 4 with ⟨G,D,A⟩ | ⟨G,D,A⟩;rcases xu a.pl 0 with ⟨c,i,d⟩ | ⟨c,i,d⟩;rcases xu a.lo 0 with ⟨u,q,j⟩ | ⟨u,q,j⟩;rcases xu a.hi 0 with ⟨o,s,v⟩ | ⟨o,s,v⟩;rotate_left;rotate_left;rotate_left;rcases xu a.k 2 with ⟨b,g,f⟩ | ⟨b,g,f⟩;rcases xu a.lo 0 with ⟨u,q,j⟩ | ⟨u,q,j⟩;rcases xu a.hi 0 with ⟨o,s,v⟩ | ⟨o,s,v⟩;rotate_left;rotate_left;rotate_left;rotate_left;rcases xu a.k 5 with ⟨H,E,B⟩ | ⟨H,E,B⟩;rcases xu a.pl 0 with ⟨c,i,d⟩ | ⟨c,i,d⟩;rotate_left;rcases xu a.k 2 with ⟨b,g,f⟩ | ⟨b,g,f⟩;rotate_left;rotate_left;rcases xu a.pl 0 with ⟨c,i,d⟩ | ⟨c,i,d⟩;rcases Ht a.ls with ⟨m,n,t⟩ | ⟨m,n,t⟩;rcases Yc n5 with ⟨p,k,r⟩ | ⟨p,k,r⟩;cases x;rotate_left;rotate_left;rotate_left;rotate_left;rcases xu a.k 2 with ⟨b,g,f⟩ | ⟨b,g,f⟩;rcases Ht a.ls with ⟨m,n,t⟩ | ⟨m,n,t⟩;rcases Yc n5 with ⟨p,k,r⟩ | ⟨p,k,r⟩;cases x;rotate_left;rotate_left;rotate_left;rotate_left;rotate_left
 all_goals
  first
   | (exfalso;omega)
   | (go_wp2;go_ret;refine⟨aH ?_,z⟩;unfold SL;simp[F.o,C.o, *] <;> omega)
theorem uK (n:Nat):(¬ 0<n/\¬ 0<(n:Int)/\decide (0<(n:Int))=false)\/(0<n/\0<(n:Int)/\decide (0<(n:Int))=true):=(bx 0 n).elim (λ h=>.inr (ami h)) (λ h=>.inl (amj (by omega)))
theorem Qu (n:Nat):(¬ 1<n/\¬ 1<(n:Int)/\decide (1<(n:Int))=false)\/(1<n/\1<(n:Int)/\decide (1<(n:Int))=true):=(bx 1 n).elim (λ h=>.inr (amk h)) (λ h=>.inl (aml (by omega)))
theorem amo (n:Nat):(n=1/\((n:Int) == 1)=true/\((n:Int) != 1)=false)\/(¬ n=1/\((n:Int) == 1)=false/\((n:Int) != 1)=true):=(bq (n=1)).elim (λ h=>.inl ⟨h,amg h⟩) (λ h=>.inr ⟨h,amh h⟩)
theorem wQ {w:World} {ad:Addr} {cs:List Value} (b:cs.length=10) (a:∀ j u,cs[j]?=some u->w.cell? (ad.add j)=some u):(wL 57 (bj (some ad))).run lM w = .ok (.agg cs.toArray) w:=
 wO underlying57 rfl (by rw[b];kernel_rfl) a
theorem vz {w:World} {g k:Nat} {T:TypeId} {c:Array Value} (h:ah w g T c) {cs:List Value} (a:∀ j u,cs[j]?=some u->c[k+j]?=some u):∀ j u,cs[j]?=some u->w.cell? ((⟨g,k,none⟩:Addr).add j)=some u:=by
 intro j u b;rw[show (⟨g,k,none⟩:Addr).add j=⟨g,k+j,none⟩ by cases j <;> rfl,h.cell];exact a j u b
theorem UX {w:World} {B:Nat} {x:ItemD} {A1:Option Addr} {c1:Nat} {A2:Option Addr} {c2:Nat} {A3:Option Addr} {c3:Nat} {A4:Option Addr} {c4:Nat} {A5:Option Addr} {c5:Nat} {B1:Option Addr} {b1:Nat} {B2:Option Addr} {b2:Nat} {B3:Option Addr} {b3:Nat} (hx:dW w B x [bf bg x.k,bh x.nm,bi A1 x.iff.length c1,bi A2 x.ph.length c2,bi A3 x.items.length c3,bk x.sh,bi A4 x.cnt.length c4,bh x.over,bf bg x.ans.k,bf bg x.ans.lo,bf bg x.ans.hi,bf bg x.ans.pl,bh x.ans.ls,bi B1 x.ans.only.length b1,bk x.ans.sh,bi B2 x.ans.rs.length b2,bk x.ans.need,bi B3 x.ans.ch.length b3,bi A5 x.cmp.length c5]) (hk:1<=x.k/\x.k<=6) :
  CS 115 #[.agg (Bd x A1 c1 A2 c2 A3 c3 A4 c4 B1 b1 B2 b2 B3 b3 A5 c5)] w (bk (nZ x)):=by
 obtain⟨l2,l6,ac,l4,l3⟩:x.iff.length<=maxLen/\x.cnt.length<=maxLen/\x.cmp.length<=maxLen/\x.items.length<=maxLen/\x.ph.length<=maxLen:=by
  cases hx with
  | mk h1 h2 h4 h5 ha l1 l3 l4 l5 l6 l7 l8 hr hi=>exact⟨h1.1,h4.1,h5.1,l8,h2.2.2.1⟩
 obtain⟨W,U⟩:=aG (w.alloc (.cells (Bd x A1 c1 A2 c2 A3 c3 A4 c4 B1 b1 B2 b2 B3 b3 A5 c5) 59 (0,0)));have t:DD w W:=U▸az w _;have a:ah W w.heap.size 59 (Bd x A1 c1 A2 c2 A3 c3 A4 c4 B1 b1 B2 b2 B3 b3 A5 c5):=U▸ah.new w _ _;have HZ:=qh (show ∀ w',DD w w'->Calls lM 170 #[.agg (BO x.ans B1 b1 B2 b2 B3 b3)] w' λ e ab=>e = .returned (bk (Iw x.ans))/\DD w' ab from λ w' _=>UT);have q0:W.cell? ⟨w.heap.size,0,none⟩=some (bf bg x.k):=a.cell 0;have q1:W.cell? ⟨w.heap.size,1,none⟩=some (bh x.nm):=a.cell 1;have q2:W.cell? ⟨w.heap.size,2,none⟩=some (bi A1 x.iff.length c1):=a.cell 2;have q3:W.cell? ⟨w.heap.size,3,none⟩=some (bi A2 x.ph.length c2):=a.cell 3;have q4:W.cell? ⟨w.heap.size,4,none⟩=some (bi A3 x.items.length c3):=a.cell 4;have q5:W.cell? ⟨w.heap.size,5,none⟩=some (bk x.sh):=a.cell 5;have q6:W.cell? ⟨w.heap.size,6,none⟩=some (bi A4 x.cnt.length c4):=a.cell 6;have q7:W.cell? ⟨w.heap.size,7,none⟩=some (bh x.over):=a.cell 7;have q8:W.cell? ⟨w.heap.size,8,none⟩=some (bf bg x.ans.k):=a.cell 8;have q9:W.cell? ⟨w.heap.size,9,none⟩=some (bf bg x.ans.lo):=a.cell 9;have am:W.cell? ⟨w.heap.size,10,none⟩=some (bf bg x.ans.hi):=a.cell 10;have ae:W.cell? ⟨w.heap.size,11,none⟩=some (bf bg x.ans.pl):=a.cell 11;have al:W.cell? ⟨w.heap.size,12,none⟩=some (bh x.ans.ls):=a.cell 12;have ao:W.cell? ⟨w.heap.size,13,none⟩=some (bi B1 x.ans.only.length b1):=a.cell 13;have ag:W.cell? ⟨w.heap.size,14,none⟩=some (bk x.ans.sh):=a.cell 14;have aq:W.cell? ⟨w.heap.size,15,none⟩=some (bi B2 x.ans.rs.length b2):=a.cell 15;have an:W.cell? ⟨w.heap.size,16,none⟩=some (bk x.ans.need):=a.cell 16;have ak:W.cell? ⟨w.heap.size,17,none⟩=some (bi B3 x.ans.ch.length b3):=a.cell 17;have T:W.cell? ⟨w.heap.size,18,none⟩=some (bi A5 x.cmp.length c5):=a.cell 18;have EZ:(wL 57 (bj (some ⟨w.heap.size,8,none⟩))).run lM W = .ok (.agg [bf bg x.ans.k,bf bg x.ans.lo,bf bg x.ans.hi,bf bg x.ans.pl,bh x.ans.ls,bi B1 x.ans.only.length b1,bk x.ans.sh,bi B2 x.ans.rs.length b2,bk x.ans.need,bi B3 x.ans.ch.length b3].toArray) W:=
  wQ rfl (vz a (by intro j u c;match j,c with | 0,c | 1,c | 2,c | 3,c | 4,c | 5,c | 6,c | 7,c | 8,c | 9,c=>(exact c) | j+10,c=>simp at c))
 clear a hx;go_enter func115,ntmps115;go_upto_region 1 with (fail);rw[<- U];clear U;obtain⟨L,M⟩:=af (x.iff.length);have Q:=qh M;rw[M] at q2 l2;clear M;obtain⟨n3,H⟩:=af (x.ph.length);have R:=qh H;rw[H] at q3 l3;clear H;obtain⟨n4,J⟩:=af (x.items.length);have S:=qh J;rw[J] at q4 l4;clear J;obtain⟨G,I⟩:=af (x.cnt.length);have O:=qh I;rw[I] at q6 l6;clear I;obtain⟨b,N⟩:=af (x.cmp.length);have P:=qh N;rw[N] at T ac;clear N;obtain⟨k,K⟩:=af (x.k);have HK:=qh K;rw[K] at q0 hk;clear K;obtain⟨z,V⟩:=af (Iw x.ans);rw[V] at HZ;obtain⟨s,X⟩:=af (x.sh);have Z:=qh (bl V X);have Y:=qh (show decide (1<G)=decide (1<(G:Int)) from decide_eq_decide.2 (by omega));rw[X] at q5;clear V X;have HA:=qh (bl HK.o (bl Q.o (bl R.o (bl S.o (bl O.o P.o)))));clear HK Q R S O P;rcases (by omega:k=1\/k=2\/k=3\/k=4\/k=5\/k=6) with rfl | rfl | rfl | rfl | rfl | rfl;cases s;rcases uK G with ⟨C,A,r⟩ | ⟨C,A,r⟩;rcases Ht x.over with ⟨i,d,f⟩ | ⟨i,d,f⟩;cases z;rotate_left;rcases uK b with ⟨E,p,o⟩ | ⟨E,p,o⟩;rcases Qu L with ⟨h,g,l⟩ | ⟨h,g,l⟩;rotate_left 6;rcases uK n3 with ⟨y,D,q⟩ | ⟨y,D,q⟩;rcases uK G with ⟨C,A,r⟩ | ⟨C,A,r⟩;rcases Ht x.over with ⟨i,d,f⟩ | ⟨i,d,f⟩;cases z;rotate_left;rcases uK b with ⟨E,p,o⟩ | ⟨E,p,o⟩;rcases Qu L with ⟨h,g,l⟩ | ⟨h,g,l⟩;rotate_left 6;rcases uK n3 with ⟨y,D,q⟩ | ⟨y,D,q⟩;cases s;rcases uK G with ⟨C,A,r⟩ | ⟨C,A,r⟩;rcases Ht x.over with ⟨i,d,f⟩ | ⟨i,d,f⟩;rotate_left;cases z;rotate_left;rcases uK b with ⟨E,p,o⟩ | ⟨E,p,o⟩;rcases Qu L with ⟨h,g,l⟩ | ⟨h,g,l⟩;rotate_left 3;rcases Ht x.over with ⟨i,d,f⟩ | ⟨i,d,f⟩;cases z;rotate_left;rcases uK b with ⟨E,p,o⟩ | ⟨E,p,o⟩;rcases Qu L with ⟨h,g,l⟩ | ⟨h,g,l⟩;rotate_left 6;rcases uK n4 with ⟨v,m,n⟩ | ⟨v,m,n⟩;cases s;rcases uK G with ⟨C,A,r⟩ | ⟨C,A,r⟩;rcases Ht x.over with ⟨i,d,f⟩ | ⟨i,d,f⟩;rcases uK b with ⟨E,p,o⟩ | ⟨E,p,o⟩;rcases Qu L with ⟨h,g,l⟩ | ⟨h,g,l⟩;rotate_left 7;rcases uK n3 with ⟨y,D,q⟩ | ⟨y,D,q⟩;rcases uK n4 with ⟨v,m,n⟩ | ⟨v,m,n⟩;cases s;rcases uK G with ⟨C,A,r⟩ | ⟨C,A,r⟩;rcases Ht x.over with ⟨i,d,f⟩ | ⟨i,d,f⟩;cases z;rotate_left;rcases amo b with ⟨aa,ad,gJ⟩ | ⟨aa,ad,gJ⟩;rcases Qu L with ⟨h,g,l⟩ | ⟨h,g,l⟩;rotate_left 8;rcases uK n4 with ⟨v,m,n⟩ | ⟨v,m,n⟩;cases s;rcases uK G with ⟨C,A,r⟩ | ⟨C,A,r⟩;rcases Ht x.over with ⟨i,d,f⟩ | ⟨i,d,f⟩;cases z;rotate_left;rcases uK b with ⟨E,p,o⟩ | ⟨E,p,o⟩;rcases Qu L with ⟨h,g,l⟩ | ⟨h,g,l⟩;rotate_left 7
 all_goals
  go_wp2_with (go_at_call 170;(with_reducible refine (HZ.o _ (by first | exact t | exact t.drew)).mono ?_);rintro e1 w1 ⟨rfl,F⟩;have ap:=Below.cell_of F T;have r2:=Below.cell_of F q2;have r6:=Below.cell_of F q6);go_ret;refine⟨aH ?_,by first | exact t | exact t.trans (F.mono t.size)⟩;unfold nZ;simp[HA.o,Z.o,Y.o, *]
def JO (l:List Int):Nat->Option Int
 | 0=>none
 | k+1=>l[k]?
theorem U5 {l:List Int} {k:Nat} (h:k<l.length):CO (JO l k) (l.drop k)=if (match JO l k with | some p=>decide (l[k]<=p) | none=>false) then 7 else if aW l[k] 1 3=true then 1 else CO (JO l (k+1)) (l.drop (k+1)):=by
 rw[bz h];simp only[CO];rw[show JO l (k+1)=some l[k] from bA h];cases JO l k <;> rfl
def CQ (a:lN) (r:Int):Int:=if r≠0 then r else if 6<a.ch.length then 2 else 0
theorem Yg (w:World):(zeroValue 92).run lM w = .ok (.agg #[bh ⟨#[]⟩,bi none 0 0]) w:=by kernel_rfl
theorem NG {w:World} {B0 D m1 S m3:Nat} {x:jS} {f:aI} {N:List au} {K:aY} (h:aT w B0 D m1 S m3 x f N K) {T:Nat} (ak:w.cell? ⟨T,0,none⟩=some (bj (some ⟨D,0,none⟩))) (ay:T<w.heap.size) {a:lN} {B1:Option Addr} {b1:Nat} {B2:Option Addr} {b2:Nat} {B3:Option Addr} {b3:Nat} (ha:qA w B0 a B1 b1 B2 b2 B3 b3) :
  CS 116 #[bj (some ⟨T,0,none⟩),.agg (BO a B1 b1 B2 b2 B3 b3)] w (bf bg (JF f.lists a)):=by
 obtain⟨kv,hm,hk⟩:=h.ls;have hB:=h.le;have aw:=ha.h3.1;have aq:=ha.l4;unfold maxLen at aq aw;have am:=ha.l5;have vC:w.cell? ⟨D,7,none⟩=some (.map (some S)):=h.blk.cell 7;obtain⟨W,hW⟩:=aG (w.alloc (.cells (BO a B1 b1 B2 b2 B3 b3) 57 (0,0)));have d:DD w W:=hW▸az w _;have t:ah W w.heap.size 57 (BO a B1 b1 B2 b2 B3 b3):=hW▸ah.new w _ _;have q0:W.cell? ⟨w.heap.size,0,none⟩=some (bf bg a.k):=t.cell 0;have q1:W.cell? ⟨w.heap.size,1,none⟩=some (bf bg a.lo):=t.cell 1;have q2:W.cell? ⟨w.heap.size,2,none⟩=some (bf bg a.hi):=t.cell 2;have q3:W.cell? ⟨w.heap.size,3,none⟩=some (bf bg a.pl):=t.cell 3;have Y:W.cell? ⟨w.heap.size,4,none⟩=some (bh a.ls):=t.cell 4;have q5:W.cell? ⟨w.heap.size,5,none⟩=some (bi B1 a.only.length b1):=t.cell 5;have q6:W.cell? ⟨w.heap.size,6,none⟩=some (bk a.sh):=t.cell 6;have q7:W.cell? ⟨w.heap.size,7,none⟩=some (bi B2 a.rs.length b2):=t.cell 7;have q8:W.cell? ⟨w.heap.size,8,none⟩=some (bk a.need):=t.cell 8;have q9:W.cell? ⟨w.heap.size,9,none⟩=some (bi B3 a.ch.length b3):=t.cell 9;have EZ:(wL 57 (bj (some ⟨w.heap.size,0,none⟩))).run lM W = .ok (.agg [bf bg a.k,bf bg a.lo,bf bg a.hi,bf bg a.pl,bh a.ls,bi B1 a.only.length b1,bk a.sh,bi B2 a.rs.length b2,bk a.need,bi B3 a.ch.length b3].toArray) W:=wQ rfl (gZ t);have fJ:=qh t;have HQ:=qh d;have y:=qh (ha.h2.below (d.mono hB));have Z:W.cell? ⟨T,0,none⟩=some (bj (some ⟨D,0,none⟩)):=Below.cell_of d ak;have V:W.cell? ⟨D,7,none⟩=some (.map (some S)):=Below.cell_of d vC;have HM:=qh (bl (hm.below d hm.lt) hk);have KL:=qh (λ (w:World)=>NF a.k w);have KF:=qh (UW (w:=W) (a:=a) (B1:=B1) (b1:=b1) (B2:=B2) (b2:=b2) (B3:=B3) (b3:=b3));have g:=qh (JF.eq_def f.lists a);obtain⟨F,hF⟩:=af (JF f.lists a);rw[hF] at g ⊢;obtain⟨C,Qv⟩:=af ((Ho a.k).1);obtain⟨H,M⟩:=af ((Ho a.k).2);rw[Qv,M] at g;simp only[Qv,M] at KL;obtain⟨x1,O⟩:=af (aW a.k 2 6);have K1:=qh (jk a.k 2 6 W);obtain⟨x2,P⟩:=af (SL a);obtain⟨x3,R⟩:=af (aW a.lo C H);have K3:=qh (λ (w:World)=>jk a.lo C H w);obtain⟨x4,I⟩:=af (aW a.hi C H);have K4:=qh (λ (w:World)=>jk a.hi C H w);obtain⟨x5,Q⟩:=af (aW a.pl 0 4);have K5:=qh (λ (w:World)=>jk a.pl 0 4 w);rw[O,P,R,I,Q] at g;rw[O] at K1;rw[P] at KF;simp only[R] at K3;simp only[I] at K4;simp only[Q] at K5;have HS:=qh (show ∀ w',DD W w'->w'.cell? ⟨T,0,none⟩=some (bj (some ⟨D,0,none⟩))/\w'.cell? ⟨D,7,none⟩=some (.map (some S))/\w'.cell? ⟨w.heap.size,0,none⟩=some (bf bg a.k)/\w'.cell? ⟨w.heap.size,1,none⟩=some (bf bg a.lo)/\w'.cell? ⟨w.heap.size,2,none⟩=some (bf bg a.hi)/\w'.cell? ⟨w.heap.size,3,none⟩=some (bf bg a.pl)/\w'.cell? ⟨w.heap.size,4,none⟩=some (bh a.ls)/\w'.cell? ⟨w.heap.size,5,none⟩=some (bi B1 a.only.length b1)/\w'.cell? ⟨w.heap.size,6,none⟩=some (bk a.sh)/\w'.cell? ⟨w.heap.size,7,none⟩=some (bi B2 a.rs.length b2)/\w'.cell? ⟨w.heap.size,8,none⟩=some (bk a.need)/\w'.cell? ⟨w.heap.size,9,none⟩=some (bi B3 a.ch.length b3) from λ w' u=>⟨Below.cell_of u Z,Below.cell_of u V,Below.cell_of u q0,Below.cell_of u q1,Below.cell_of u q2,Below.cell_of u q3,Below.cell_of u Y,Below.cell_of u q5,Below.cell_of u q6,Below.cell_of u q7,Below.cell_of u q8,Below.cell_of u q9⟩);clear t ha hm hk h hF Qv M ak vC O P R I Q;go_enter func116,ntmps116;go_upto_region 1 with (fail);rw[<- hW];clear hW;go_upto_region 2 with (go_at_call 171;(with_reducible refine (KL.o _).mono ?_);rintro z b ⟨rfl,rfl⟩);cases x1
 case true =>
  go_wp2_with (go_at_call 30;(with_reducible refine K1.o.mono ?_);rintro z b ⟨rfl,rfl⟩);go_ret;exact⟨aj (by rw[g.o];simp),HQ.o⟩
 have g:=qh (g.o.trans (if_neg (by decide)));go_upto_region 4 with (go_at_call 30;(with_reducible refine K1.o.mono ?_);rintro z b ⟨rfl,rfl⟩);cases x2
 case false =>
  go_wp2_with (go_at_call 172;(with_reducible refine KF.o.mono ?_);rintro z b ⟨rfl,o⟩);go_ret;exact⟨aj (by rw[g.o];simp),d.trans (o.mono d.size)⟩
 have g:=qh (g.o.trans (if_neg (by decide)));go_upto_region 6 with (go_at_call 172;(with_reducible refine KF.o.mono ?_);rintro z b ⟨rfl,o⟩);have n:=qh (d.trans (o.mono d.size));have DN:=qh o;clear Z V q0 q1 q2 q3 Y q5 q6 q7 q8 q9 EZ;obtain⟨Z,V,q0,q1,q2,q3,Y,q5,q6,q7,q8,q9⟩:=HS.o _ o;clear o d;by_cases hlt:a.hi<a.lo
 .have m:=qh (g.o.trans (if_pos (.inl hlt)));go_wp2;go_ret;exact⟨aj (by rw[m.o]),n.o⟩
 cases x3
 case true =>
  have m:=qh (g.o.trans (if_pos (.inr (.inl rfl))));go_wp2_with (go_at_call 30;(with_reducible refine (K3.o _).mono ?_);rintro z b ⟨rfl,rfl⟩);go_ret;exact⟨aj (by rw[m.o]),n.o⟩
 cases x4
 case true =>
  have m:=qh (g.o.trans (if_pos (.inr (.inr rfl))));go_wp2_with (first
   | (go_at_call 30;(with_reducible refine (K3.o _).mono ?_);rintro z b ⟨rfl,rfl⟩)
   | (go_at_call 30;(with_reducible refine (K4.o _).mono ?_);rintro e2 w2 ⟨rfl,rfl⟩))
  go_ret;exact⟨aj (by rw[m.o]),n.o⟩
 have g:=qh (g.o.trans (if_neg (by rintro (h | h | h);exact hlt h;cases h;cases h)));go_upto_region 8 with (first
  | (go_at_call 30;(with_reducible refine (K3.o _).mono ?_);rintro z b ⟨rfl,rfl⟩)
  | (go_at_call 30;(with_reducible refine (K4.o _).mono ?_);rintro e2 w2 ⟨rfl,rfl⟩))
 clear hlt;cases x5
 case true =>
  have m:=qh (g.o.trans (if_pos rfl));go_wp2_with (go_at_call 30;(with_reducible refine (K5.o _).mono ?_);rintro z b ⟨rfl,rfl⟩);go_ret;exact⟨aj (by rw[m.o]),n.o⟩
 have g:=qh (g.o.trans (if_neg (by decide)));go_upto_region 10 with (go_at_call 30;(with_reducible refine (K5.o _).mono ?_);rintro z b ⟨rfl,rfl⟩);have q:=Below.refl b.heap.size b;have ap:B0<=b.heap.size:=bm hB n.o.size;have aD:w.heap.size<b.heap.size:=br fJ.o.lt DN.o.size;have xK:=qh (HM.o.1.below DN.o HM.o.1.lt);obtain⟨s9,A9,n9,c9,X,L,ad⟩:∃ s9 A9 n9 c9 X,(∀ w',DD b w'->(Instr.lookup 113 (.map (some S)) (bh a.ls) true).run lM w' = .ok (.tuple #[.agg #[bh s9,bi A9 n9 c9],bk X]) w')/\(lX f.lists a.ls).isNone=!X:=by
  have U:=HM.o.2 a.ls;have h8:=λ w' (v:DD b w')=>(xK.o.below v xK.o.lt).look underlying113 (Yg w') am;cases B:lX f.lists a.ls with
  | none =>
   rw[B] at U;exact⟨_,_,_,_,false,λ w' v=>by have:=h8 w' v;rw[U] at this;exact this,rfl⟩
  | some l =>
   rw[B] at U;obtain⟨A,c,U,-⟩:=U;exact⟨_,_,_,_,true,λ w' v=>by have:=h8 w' v;rw[U] at this;exact this,rfl⟩
 rw[ad] at g;have MQ:=qh (λ w' (B:DD b w')=>bl (Below.cell_of B Z) (bl (Below.cell_of B V) (bl (Below.cell_of B Y) (bl (L w' B) B))));have av:=L b q;have ar:=qh (λ w' (B:DD b w')=>HS.o w' (DN.o.trans (B.mono DN.o.size)));have y:=qh (y.o.below (DN.o.mono (bm hB HQ.o.size)));clear L ad q0 q1 q2 q3 q5 q6 q7 q8 q9 K1 KF HS KL HM K3 K4 K5;go_region_held3 (λ w'=>w'.cell? ⟨T,0,none⟩=some (bj (some ⟨D,0,none⟩))/\w'.cell? ⟨D,7,none⟩=some (.map (some S))/\w'.cell? ⟨w.heap.size,4,none⟩=some (bh a.ls)/\(Instr.lookup 113 (.map (some S)) (bh a.ls) true).run lM w' = .ok (.tuple #[.agg #[bh s9,bi A9 n9 c9],bk X]) w'/\DD b w')
  (first | exact MQ.o _ q.drew | exact MQ.o _ (q.alloc (bs _) _) | exact MQ.o _ (q.alloc (bs _) _).drew | exact MQ.o _ (q.drew.alloc (bs _) _) | exact MQ.o _ q) (fail)
 all_goals
  obtain⟨W2,J⟩:=aG ((b.alloc (.cells #[bh s9,bi A9 n9 c9] 92 (0,0))).drew);have E:DD b W2:=J▸((Below.refl _ b).alloc (bs _) _).drew;rw[<- J];clear J Z V Y av;obtain⟨Z,V,q0,q1,q2,q3,Y,q5,q6,q7,q8,q9⟩:=ar.o _ E;have s:=qh (n.o.trans (E.mono n.o.size));have y:=qh (y.o.below (E.mono ap));clear E;by_cases hbad:X=false/\(a.k=4\/a.k=5)
  .obtain⟨rfl,jX⟩:=hbad;have m:=qh (g.o.trans (if_pos ⟨rfl,jX⟩));by_cases h4:a.k=4
   case' pos =>
    obtain⟨g4,ae⟩:=iP h4;clear jX h4
   case' neg =>
    obtain⟨g4,ae⟩:=fH h4;obtain⟨g5,Xg⟩:=iP (jX.resolve_left h4);clear jX h4
   all_goals
    go_wp2;go_ret;exact⟨aj (by rw[m.o]),s.o⟩
  have al:=qh (show F=CQ a (CO none a.rs) from g.o.trans (if_neg (λ h=>hbad ⟨by simpa using h.1,h.2⟩)));clear g;cases X
  case' false =>
   obtain⟨g4,ae⟩:=fH (λ h:a.k=4=>hbad ⟨rfl,.inl h⟩);obtain⟨g5,Xg⟩:=fH (λ h:a.k=5=>hbad ⟨rfl,.inr h⟩);clear hbad;go_upto_region 13 with (fail)
  case' true =>
   clear hbad;go_upto_region 13 with (fail)
  all_goals
   go_wp2;go_loopw [77] (λ i wr=>∃ k:Nat,i = bf bg k/\k<=a.rs.length/\wr=W2/\Hid (F=CQ a (CO (JO a.rs k) (a.rs.drop k)))) (λ i _=>a.rs.length+1 - (intOf i).toNat)
   case atStart=>exact⟨0,rfl,bo _,rfl,al⟩
   case round =>
    obtain⟨k,rfl,hk,rfl,j⟩:=hrel;by_cases hlt:k<a.rs.length
    .have j:=qh (j.o.trans (congrArg (CQ a) (U5 hlt)));obtain⟨ab,ao,e9,ac,G⟩:=y.o.plain (by omega);subst e9;have ac:ab<wr.heap.size:=br ac (bm hB s.o.size);have qx:wr.cell? ⟨ab,ao+k,none⟩=some (bf bg a.rs[k]):=G k _ (by simp[bK,hlt]);obtain⟨r,hr⟩:=af (a.rs[k]);rw[hr] at qx j;have HR:=qh hr;clear hr;have aV:=qh hlt;obtain⟨x6,ag⟩:=af (aW r 1 3);have K6:=qh (jk r 1 3 wr);rw[ag] at K6 j;clear ag;by_cases hk0:k=0
     case' pos =>
      clear G;subst hk0;rw[Nat.add_zero] at qx;have j:=qh (j.o.trans (congrArg (CQ a) (if_neg (by simp[JO]))))
     case' neg =>
      have an:wr.cell? ⟨ab,ao+(k - 1),none⟩=some (bf bg a.rs[k - 1]):=G (k - 1) _ (by simp[bK,show k - 1<a.rs.length by omega]);obtain⟨p,hp⟩:=af (a.rs[k - 1]);have aa:JO a.rs k=some p:=by
       cases k with
       | zero=>exact absurd rfl hk0
       | succ k'=>rw[<- hp];exact bA (by omega)
      rw[hp] at an;rw[aa] at j;have i0:IntKind.i64.wrap ((k:Int) - 1)=(k:Int) - 1:=IntWalk.i64_in _ (by omega);have i1:((k:Int) - 1).toNat=k - 1:=by omega
      have i2:(0:Int)<=(k:Int) - 1:=by omega
      have i3:(k:Int) - 1<(a.rs.length:Int):=by omega
      have o:0<k:=by omega
      clear hp aa hk0 G;by_cases hle:r<=p
      .have j:=qh (j.o.trans (congrArg (CQ a) (if_pos (by simpa using hle))));go_wp2;go_ret;exact⟨aj (by rw[j.o];rfl),s.o⟩
      have j:=qh (j.o.trans (congrArg (CQ a) (if_neg (by simpa using hle))))
     all_goals
      go_upto_region 18 with (fail);cases x6
      case true =>
       have m:=qh (j.o.trans (congrArg (CQ a) (if_pos rfl)));go_wp2_with (go_at_call 30;(with_reducible refine K6.o.mono ?_);rintro z b ⟨rfl,rfl⟩);go_ret;exact⟨aj (by rw[m.o];rfl),s.o⟩
      have m:=qh (j.o.trans (congrArg (CQ a) (if_neg (by decide))));go_wp2_with (go_at_call 30;(with_reducible refine K6.o.mono ?_);rintro z b ⟨rfl,rfl⟩);go_roundw
      case rel=>exact⟨_+1,by go_num,aV.o,by first | rfl | trivial,m⟩
      case measure =>
       have:=aV.o
       first | (simp[intOf];done) | (simp[intOf];omega)
    .have e:k=a.rs.length:=by omega
     subst e;have j:=qh (show F=if 6<a.ch.length then 2 else 0 from j.o.trans (by rw[bB];cases JO a.rs a.rs.length <;> rfl));by_cases h6:6<a.ch.length
     .have m:=qh (j.o.trans (if_pos h6));have ax:(6:Int)<a.ch.length:=by omega
      go_wp2;go_ret;exact⟨aj (by rw[m.o]),s.o⟩
     .have m:=qh (j.o.trans (if_neg h6));have ax:¬ (6:Int)<a.ch.length:=by omega
      go_wp2;go_ret;exact⟨aj (by rw[m.o]),s.o⟩
theorem any_succ {N:List au} {P:au->Bool} {k:Nat} (h:k<N.length):(N.take (k+1)).any P=((N.take k).any P || P N[k]):=by
 rw[bt h,List.any_append];simp
theorem ae7 {N:List au} {P:au->Bool} {k:Nat} (h:k<N.length) (a:P N[k]=true):N.any P=true:=bE.2 ⟨N[k],bL h,a⟩
theorem size_any {w:World} {B0 C V m2 m3:Nat} {x:jS} {f:aI} {N:List au} {K:aY} (h:aT w B0 C V m2 m3 x f N K) {z:Nat} (I:w.cell? ⟨z,0,none⟩=some (bj (some ⟨C,0,none⟩))) (aa:z<w.heap.size) :
  CS 113 #[bj (some ⟨z,0,none⟩)] w (bf bg (xJ N)):=by
 have L:=h.cap;have tq:=h.nodes.1;have c5:w.cell? ⟨C,5,none⟩=some (bi x.AN N.length x.cn):=h.blk.cell 5;have kF:=qh h;obtain⟨Z,B⟩:=af (x.AN);have t:=qh B;have m:=qh (xJ.eq_def N);obtain⟨F,hF⟩:=af (xJ N);rw[hF] at m ⊢;rw[B] at c5;clear h B hF;by_cases ais:300<N.length
 .have E:(300:Int)<N.length:=by omega
  have b:=qh (m.o.trans (if_pos ais));go_enter func113,ntmps113;go_wp2;go_ret;exact⟨aj b.o.symm,Below.refl _ _⟩
 have m:=qh (m.o.trans (if_neg ais));have E:¬ (300:Int)<N.length:=by omega
 go_enter func113,ntmps113;go_wp2;clear c5 I;go_loopw [22] (λ i wr=>∃ k:Nat,i = bf bg k/\k<=N.length/\Hid ((N.take k).any (λ d=>decide (12<d.dm) || decide (3<d.lo.length))=false)/\DD w wr) (λ i _=>302 - (intOf i).toNat)
 case atStart=>exact⟨0,rfl,bo _,qh rfl,Below.refl _ _⟩
 case round =>
  obtain⟨k,rfl,hk,o,r⟩:=hrel;have R:=r.size;by_cases hlt:k<N.length
  .have l:=qh (ae7 (P:=λ d=>decide (12<d.dm) || decide (3<d.lo.length)) hlt);have p:=qh (any_succ (P:=λ d=>decide (12<d.dm) || decide (3<d.lo.length)) hlt);have J:=qh (kF.o.keep r);obtain⟨ad,A1,c1,A2,c2,A3,c3,A4,c4,A5,c5,B1,b1,B2,b2,B3,b3,A,c,M,X,hit,n,D⟩:=J.o.pG hlt;obtain rfl:Z=some ad:=t.o.symm.trans M;obtain⟨d,H⟩:=af (N[k]);rw[H] at D l n hit;obtain⟨cs,a⟩:∃ cs:List Value,[bf bg d.it.k,bh d.it.nm,bi A1 d.it.iff.length c1,bi A2 d.it.ph.length c2,bi A3 d.it.items.length c3,bk d.it.sh,bi A4 d.it.cnt.length c4,bh d.it.over,bf bg d.it.ans.k,bf bg d.it.ans.lo,bf bg d.it.ans.hi,bf bg d.it.ans.pl,bh d.it.ans.ls,bi B1 d.it.ans.only.length b1,bk d.it.ans.sh,bi B2 d.it.ans.rs.length b2,bk d.it.ans.need,bi B3 d.it.ans.ch.length b3,bi A5 d.it.cmp.length c5,bf bg d.par,bf bg d.jA,bf bg d.dm,bi A d.lo.length c]=cs:=⟨_,rfl⟩;have v:cs.length=23:=by subst a;rfl
   have JM:=ES (w:=wr) v (ad:=ad.add (k*23)) (λ j u S=>D j u (by subst a;exact S));have U:=Ny (w:=wr) v (by subst a;simp[bn]);obtain⟨W,q⟩:=aG (wr.alloc (.cells cs.toArray 110 (0,0)));have T:DD wr W:=q▸az wr _;have g:=r.trans (T.mono R);have G:ah W wr.heap.size 110 cs.toArray:=q▸ah.new wr _ _;have Y:W.cell? ⟨wr.heap.size,21,none⟩=some (bf bg d.dm):=by rw[G.cell 21];subst a;rfl
   have Q:W.cell? ⟨wr.heap.size,22,none⟩=some (bi A d.lo.length c):=by rw[G.cell 22];subst a;rfl
   rw[H] at p;have ab:d.lo.length<=1000:=n.2;have O:=qh hlt;clear a v hit n D X J M H G;go_upto_region 6 with (fail);rw[<- q];clear JM U q;by_cases h12:12<d.dm
   .have b:=qh (m.o.trans (if_pos (l.o (by simp[h12]))));go_wp2;go_ret;exact⟨aj b.o.symm,g⟩
   by_cases h3:3<d.lo.length
   .have b:=qh (m.o.trans (if_pos (l.o (by simp[h3]))));have y:(3:Int)<d.lo.length:=by omega
    go_wp2;go_ret;exact⟨aj b.o.symm,g⟩
   .have s:=qh (p.o.trans (by rw[o.o,decide_eq_false h12,decide_eq_false h3]));have y:¬ (3:Int)<d.lo.length:=by omega
    go_wp2;go_roundw
    case rel=>exact⟨k+1,by go_num,O.o,s,g⟩
    case measure =>
     have:=O.o;simp[intOf];omega
  .have e:k=N.length:=by omega
   subst e;have o:=qh o.o;rw[bw] at o;have b:=qh (m.o.trans (if_neg (by simp[o.o])));go_wp2;go_ret;exact⟨aj b.o.symm,r⟩
theorem Qw {l:List ByteArray} {k:Nat} (h:k<l.length):Bc (l.take k) (l.drop k)=if aP l[k].data.toList=false then 5 else if Lib.containsS (l.take k) l[k]=true then 6 else Bc (l.take (k+1)) (l.drop (k+1)):=by
 rw[bz h,Bc,bt h];have e:(l.take k).any (λ p=>decide (p=l[k]))=Lib.containsS (l.take k) l[k]:=by
  rw[Bool.eq_iff_iff,Lib.containsS_iff,bE];exact⟨λ ⟨x,a,e⟩=>of_decide_eq_true e▸a,λ a=>⟨_,a,by simp⟩⟩
 rw[e]
theorem lQ {w:World} {ad:Addr} {cs:List Value} (b:cs.length=5) (a:∀ j u,cs[j]?=some u->w.cell? (ad.add j)=some u):(wL 26 (bj (some ad))).run lM w = .ok (.agg cs.toArray) w:=
 wO underlying26 rfl (by rw[b];kernel_rfl) a
theorem zf {w:World} {cs:List Value} (a:cs.length=5) (b:∀ v∈cs,v.oneCell'=true):(Hr 26 (bj (some ⟨w.heap.size,0,none⟩)) (.agg cs.toArray)).run lM (w.alloc (.cells #[bh ⟨#[]⟩,bf bg 0,bi none 0 0,bi none 0 0,bi none 0 0] 26 (0,0))) = .ok () (w.alloc (.cells cs.toArray 26 (0,0))):=
 wP (by rw[show cs.toArray.size=5 from a];kernel_rfl) (show 5=cs.toArray.size from a.symm) (by rw[<- Array.all_toList];exact List.all_eq_true.2 b)
theorem Yh {w:World} {B0 O m1 m2 m3:Nat} {x:jS} {f:aI} {N:List au} {K:aY} (h:aT w B0 O m1 m2 m3 x f N K) {M:Nat} (ak:w.cell? ⟨M,0,none⟩=some (bj (some ⟨O,0,none⟩))) (ae:M<w.heap.size) :
  CS 71 #[bj (some ⟨M,0,none⟩)] w (bf bg (nG f)):=by
 have A:=h.form.nm;obtain⟨y,ag,J,r⟩:=h.form.la;have V:=h.le;have c:=qh (nG.eq_def f);obtain⟨F,hF⟩:=af (nG f);rw[hF] at c ⊢;obtain⟨cs,b⟩:∃ cs:List Value,[bh f.nm,bf bg f.jo,bi x.AL f.ag.length x.cl,bi x.AS f.lists.length x.cs,bi x.AI f.items.length x.ci]=cs:=⟨_,rfl⟩;have S:cs.length=5:=by subst b;rfl
 have I:=lQ (w:=w) S (ad:=⟨O,0,none⟩) (vz (k:=0) h.blk (by subst b;intro j u m;match j,m with | 0,m | 1,m | 2,m | 3,m | 4,m=>(exact m) | j+5,m=>simp at m));have P:=zf (w:=w) S (by subst b;simp[bn]);obtain⟨W,G⟩:=aG (w.alloc (.cells cs.toArray 26 (0,0)));have a:DD w W:=G▸az w _;have H:ah W w.heap.size 26 cs.toArray:=G▸ah.new w _ _;have q0:W.cell? ⟨w.heap.size,0,none⟩=some (bh f.nm):=by rw[H.cell 0];subst b;rfl
 have q1:W.cell? ⟨w.heap.size,1,none⟩=some (bf bg f.jo):=by rw[H.cell 1];subst b;rfl
 have q2:W.cell? ⟨w.heap.size,2,none⟩=some (bi x.AL f.ag.length x.cl):=by rw[H.cell 2];subst b;rfl
 have E:=qh (bl (Reads.below y (a.mono V)) r);obtain⟨AL,q⟩:=af (x.AL);rw[q] at q2 E;clear q;obtain⟨x1,z⟩:=af (aP f.nm.data.toList);have L:=qh (jE f.nm W A);obtain⟨x2,B⟩:=af (aW f.jo 1 9999);have R:=qh (jk f.jo 1 9999 W);obtain⟨x3,n⟩:=af (aW f.ag.length 1 6);have T:=qh (jk f.ag.length 1 6 W);rw[z] at c L;rw[B] at c R;rw[n] at c T;have ac:=qh n;clear y r H b S hF h A z B n;go_enter func71,ntmps71;go_upto_region 2 with (fail);rw[<- G];clear I P G;cases x1
 case false =>
  go_wp2_with (go_at_call 23;(with_reducible refine L.o.mono ?_);rintro l g ⟨rfl,rfl⟩);go_ret;exact⟨aj (by rw[c.o];simp),a⟩
 have c:=qh (c.o.trans (if_neg (by decide)));go_upto_region 4 with (go_at_call 23;(with_reducible refine L.o.mono ?_);rintro l g ⟨rfl,rfl⟩);cases x2
 case true =>
  go_wp2_with (go_at_call 30;(with_reducible refine R.o.mono ?_);rintro l g ⟨rfl,rfl⟩);go_ret;exact⟨aj (by rw[c.o];simp),a⟩
 have c:=qh (c.o.trans (if_neg (by decide)));go_upto_region 6 with (go_at_call 30;(with_reducible refine R.o.mono ?_);rintro l g ⟨rfl,rfl⟩);cases x3
 case true =>
  go_wp2_with (go_at_call 30;(with_reducible refine T.o.mono ?_);rintro l g ⟨rfl,rfl⟩);go_ret;exact⟨aj (by rw[c.o];simp),a⟩
 have c:=qh (c.o.trans (if_neg (by decide)));unfold maxLen at J;go_wp2_with (go_at_call 30;(with_reducible refine T.o.mono ?_);rintro l g ⟨rfl,rfl⟩);go_loopw [27] (λ i wr=>∃ k:Nat,i = bf bg k/\k<=f.ag.length/\wr=W/\Hid (F=Bc (f.ag.take k) (f.ag.drop k))) (λ i _=>f.ag.length+1 - (intOf i).toNat)
 case atStart=>exact⟨0,rfl,bo _,rfl,c⟩
 case round =>
  obtain⟨k,rfl,hk,rfl,d⟩:=hrel;by_cases hlt:k<f.ag.length
  .have d:=qh (d.o.trans (Qw hlt));have HT:=qh (dA.take E.o.1 k);obtain⟨Q,X,e9,t,C⟩:=Reads.plain E.o.1 (by omega);subst e9;have qx:wr.cell? ⟨Q,X+k,none⟩=some (bh f.ag[k]):=C k _ (by simp[dP,hlt]);have p:=qh (jE f.ag[k] wr (E.o.2 _ (bL hlt)));have v:=qh (uy (some ⟨Q,X,none⟩) x.cl B0 (f.ag.take k) f.ag[k] wr (by rw[bp];unfold maxLen;omega) HT.o);rw[bp,Nat.min_eq_left (by omega)] at v;obtain⟨s,U⟩:=af (f.ag[k]);rw[U] at qx p v d;obtain⟨x4,o⟩:=af (aP s.data.toList);obtain⟨x5,D⟩:=af (Lib.containsS (f.ag.take k) s);rw[o] at p d;rw[D] at v d;have t:Q<wr.heap.size:=br t (bm V a.size);have Y:=qh hlt;have aa:k<=x.cl:=by omega
   clear U o D C;cases x4
   case false =>
    go_wp2_with (go_at_call 23;(with_reducible refine p.o.mono ?_);rintro l g ⟨rfl,rfl⟩);go_ret;exact⟨aj (by rw[d.o];simp),a⟩
   have d:=qh (d.o.trans (if_neg (by decide)));cases x5
   case true =>
    go_wp2_with (first
     | (go_at_call 23;(with_reducible refine p.o.mono ?_);rintro l g ⟨rfl,rfl⟩)
     | (go_at_call 90;(with_reducible refine v.o.mono ?_);rintro l g ⟨rfl,rfl⟩))
    go_ret;exact⟨aj (by rw[d.o];simp),a⟩
   have d:=qh (d.o.trans (if_neg (by decide)));go_wp2_with (first
    | (go_at_call 23;(with_reducible refine p.o.mono ?_);rintro l g ⟨rfl,rfl⟩)
    | (go_at_call 90;(with_reducible refine v.o.mono ?_);rintro l g ⟨rfl,rfl⟩))
   go_roundw
   case rel=>exact⟨k+1,by go_num,Y.o,by first | rfl | trivial,d⟩
   case measure =>
    have:=Y.o;simp[intOf];omega
  .have e:k=f.ag.length:=by omega
   subst e;have Z:=qh (show F=0 from d.o.trans (by rw[bB];rfl));go_wp2;go_ret;exact⟨aj Z.o.symm,a⟩
theorem IA {N:List au} {L:List aS} {k:Nat} (h:k<N.length):uX N L (N.length+1 - k) k=if mF N L k≠0 then mF N L k else uX N L (N.length+1 - (k+1)) (k+1):=by
 obtain⟨m,a⟩:∃ m,N.length+1 - k=m+1:=⟨N.length - k,by omega⟩;rw[a,show N.length+1 - (k+1)=m by omega,uX,if_pos h]
theorem Yi {N:List au} {L:List aS}:uX N L (N.length+1 - N.length) N.length=0:=by
 rw[show N.length+1 - N.length=0+1 by omega,uX,if_neg (by omega)]
theorem Yj {N:List au} {L:List aS} {k:Nat} {d:au} (h:k<N.length) (a:N[k]=d):mF N L k=if aW d.it.k 1 6=true then 4 else if aP d.it.nm.data.toList=false\/d.it.nm=uD then 5 else if (N.take k).any (λ e=>decide (e.it.nm=d.it.nm))=true then 6 else if nZ d.it=true then 3 else
  if (sV N k=true/\(d.it.k=1\/d.it.k=6))\/(sV N k=false/\d.it.k=4) then 7 else if d.it.k=4 then JF L d.it.ans else 0:=by
 unfold mF;rw[iD h,a]
def IB (kv:List (ByteArray × Value)) (l:List au):Prop:=kv.length<=l.length/\∀ s,di kv s=if l.any (λ d=>decide (d.it.nm=s))=true then some (bk true) else none
theorem IB.add {a:List (ByteArray × Value)} {N:List au} {k:Nat} (h:IB a (N.take k)) (b:k<N.length):IB ((N[k].it.nm,bk true) :: a) (N.take (k+1)):=by
 refine⟨by have:=h.1;simp at this ⊢;omega,λ s=>?_⟩;rw[any_succ b,di];by_cases e:N[k].it.nm=s
 .simp[e]
 .simp only[e,if_false,decide_false,Bool.or_false];exact h.2 s
theorem IB.get {a:List (ByteArray × Value)} {l:List au} (h:IB a l) (s:ByteArray):(di a s).getD (bk false) = bk (l.any (λ d=>decide (d.it.nm=s))):=by
 rw[h.2 s];cases l.any (λ d=>decide (d.it.nm=s)) <;> rfl
theorem amu {s:ByteArray} (h:s=uD):(s.toList == [111,112,116,105,111,110])=true:=by
 subst h;rw[bv];rfl
theorem amv {s:ByteArray} (h:¬ s=uD):(s.toList == [111,112,116,105,111,110])=false:=by
 rw[beq_eq_false_iff_ne];intro e;rw[bv] at e;exact h (ByteArray.ext (Array.toList_inj.1 e))
theorem Yk (w:World):(zeroValue 4).run lM w = .ok (bk false) w:=by kernel_rfl
theorem Qx {w:World} {B0 gb m1 m2 m3:Nat} {x:jS} {f:aI} {N:List au} {K:aY} (h:aT w B0 gb m1 m2 m3 x f N K) {R:Nat} (I:w.cell? ⟨R,0,none⟩=some (bj (some ⟨gb,0,none⟩))) (aD:R<w.heap.size) (hN:gW N) :
  CS 73 #[bj (some ⟨R,0,none⟩)] w (bf bg (fZ N f.lists)):=by
 have ba:=h.cap;have tq:=h.nodes.1;have hB:=h.le;have kF:=qh (bl h (bl I (bl aD hN)));have LU:=qh (size_any h I aD);obtain⟨AN,LQ⟩:=af (x.AN);have ao:=qh LQ;have HF:=qh (fZ.eq_def N f.lists);obtain⟨F,hF⟩:=af (fZ N f.lists);obtain⟨z,hz⟩:=af (xJ N);rw[hF,hz] at HF;rw[hz] at LU;rw[hF];clear h LQ hF hz;by_cases hz0:z=0
 case neg =>
  have l:=qh (HF.o.trans (if_pos hz0));obtain⟨g0,bb⟩:=fH hz0;go_enter func73,ntmps73;go_wp2_with (go_at_call 113;(with_reducible refine LU.o.mono ?_);rintro C v ⟨rfl,r⟩);go_ret;exact⟨aj l.o.symm,r⟩
 subst hz0;have HF:=qh (HF.o.trans (if_neg (by decide)));go_enter func73,ntmps73;go_upto_region 4 with (go_at_call 113;(with_reducible refine LU.o.mono ?_);rintro C v ⟨rfl,r⟩);have am:=qh (kF.o.1.keep r);have G:=r.size;have c5:v.cell? ⟨gb,5,none⟩=some (bi x.AN N.length x.cn):=am.o.blk.cell 5;rw[ao.o] at c5;have a8:v.cell? ⟨R,0,none⟩=some (bj (some ⟨gb,0,none⟩)):=Below.cell_of r I;have a9:=@run_makeMap lM;have be:R<v.heap.size:=by omega
 have bd:gb<v.heap.size:=am.o.blk.lt;go_wp2;clear a9;have a2:=qh (aO.made v);clear c5 a8 I;go_loopw [24] (λ i wr=>∃ (k:Nat) (kv:List (ByteArray × Value)),i = bf bg k/\k<=N.length/\Hid (F=uX N f.lists (N.length+1 - k) k)/\Hid (aO wr v.heap.size kv/\IB kv (N.take k))/\DD w wr) (λ i _=>302 - (intOf i).toNat)
 case atStart=>exact⟨0,[],rfl,bo _,HF,qh ⟨a2.o,by simp,λ s=>rfl⟩,r.alloc G _⟩
 case round =>
  obtain⟨k,kv,rfl,hk,HP,HM,hb⟩:=hrel;have hs:=hb.size;by_cases hlt:k<N.length
  .have JL:=qh (kF.o.1.keep hb);obtain⟨ad,A1,c1,A2,c2,A3,c3,A4,c4,A5,c5,B1,b1,B2,b2,B3,b3,A,c,hA,PU,hit,a7,hc⟩:=JL.o.pG hlt;obtain rfl:AN=some ad:=ao.o.symm.trans hA;obtain⟨d,hd⟩:=af (N[k]);have a:=qh (Yj (L:=f.lists) hlt hd);have Q:=qh (show ∀ c:Int,c≠0->mF N f.lists k=c->F=c from λ c h1 h2=>HP.o.trans ((IA hlt).trans (by rw[h2,if_pos h1])));have V:=qh (show mF N f.lists k=0->F=uX N f.lists (N.length+1 - (k+1)) (k+1) from λ h2=>HP.o.trans ((IA hlt).trans (by rw[h2];rfl)));have ab:=qh (HM.o.2.add hlt);have tu:=HM.o.1.lt;rw[hd] at hc hit ab;have J:d.it.nm.size<=maxLen:=by cases hit;assumption
   obtain⟨Z,H⟩:∃ cs:List Value,[bf bg d.it.k,bh d.it.nm,bi A1 d.it.iff.length c1,bi A2 d.it.ph.length c2,bi A3 d.it.items.length c3,bk d.it.sh,bi A4 d.it.cnt.length c4,bh d.it.over,bf bg d.it.ans.k,bf bg d.it.ans.lo,bf bg d.it.ans.hi,bf bg d.it.ans.pl,bh d.it.ans.ls,bi B1 d.it.ans.only.length b1,bk d.it.ans.sh,bi B2 d.it.ans.rs.length b2,bk d.it.ans.need,bi B3 d.it.ans.ch.length b3,bi A5 d.it.cmp.length c5]=cs:=⟨_,rfl⟩;obtain⟨cs,y⟩:∃ cs:List Value,Z ++ [bf bg d.par,bf bg d.jA,bf bg d.dm,bi A d.lo.length c]=cs:=⟨_,rfl⟩;have Nu:Z.length=19:=by subst H;rfl
   have qL:cs.length=23:=by subst y;rw[List.length_append,Nu];rfl
   have JM:=ES (w:=wr) qL (ad:=ad.add (k*23)) (λ j u hu=>hc j u (by subst y H;exact hu));have Qs:=Ny (w:=wr) qL (by subst y H;simp[bn]);obtain⟨W,hW⟩:=aG (wr.alloc (.cells cs.toArray 110 (0,0)));have oM:DD wr W:=hW▸az wr _;have bc:=hb.trans (oM.mono hs);have BW:ah W wr.heap.size 110 cs.toArray:=hW▸ah.new wr _ _;have a4:=yX (w:=W) Nu (vz (k:=0) BW (by subst y;intro j u o;rw[Nat.zero_add,List.getElem?_toArray,List.getElem?_append_left (List.getElem?_eq_some_iff.1 o).1];exact o));have a0:=Ns (w:=W) Nu (by subst H;simp[bn]);obtain⟨W2,E⟩:=aG (W.alloc (.cells Z.toArray 59 (0,0)));have a1:DD W W2:=E▸az W _;have qf:=oM.trans (a1.mono oM.size);have b:=hb.trans (qf.mono hs);have BI:ah W2 W.heap.size 59 Z.toArray:=E▸ah.new W _ _;have HS:=qh (show ∀ w',ah w' W.heap.size 59 Z.toArray->w'.cell? ⟨W.heap.size,0,none⟩=some (bf bg d.it.k)/\w'.cell? ⟨W.heap.size,1,none⟩=some (bh d.it.nm)/\(wL 59 (bj (some ⟨W.heap.size,0,none⟩))).run lM w' = .ok (.agg Z.toArray) w'/\(wL 57 (bj (some ⟨W.heap.size,8,none⟩))).run lM w' = .ok (.agg [bf bg d.it.ans.k,bf bg d.it.ans.lo,bf bg d.it.ans.hi,bf bg d.it.ans.pl,bh d.it.ans.ls,bi B1 d.it.ans.only.length b1,bk d.it.ans.sh,bi B2 d.it.ans.rs.length b2,bk d.it.ans.need,bi B3 d.it.ans.ch.length b3].toArray) w' from
    λ w' B=>⟨by rw[B.cell 0];subst H;rfl,by rw[B.cell 1];subst H;rfl,yX Nu (gZ B),wQ rfl (vz B (by subst H;intro j u o;match j,o with | 0,o | 1,o | 2,o | 3,o | 4,o | 5,o | 6,o | 7,o | 8,o | 9,o=>(exact o) | j+10,o=>simp at o))⟩)
   have UQ:=qh (show ∀ w',DD w w'->w'.cell? ⟨R,0,none⟩=some (bj (some ⟨gb,0,none⟩)) from λ w' q=>Below.cell_of q kF.o.2.1);have KX:=qh (show ∀ w',DD wr w'->(1<=d.it.k/\d.it.k<=6)->Calls lM 115 #[.agg Z.toArray] w' λ e ag=>e = .returned (bk (nZ d.it))/\DD w' ag from λ w' q aZ=>by
    rw[<- H];exact UX (hit.keep (q.mono (bm hB hs))) aZ)
   have KA:=qh (show ∀ w',DD w w'->DD wr w'\/True->qA w' B0 d.it.ans B1 b1 B2 b2 B3 b3->Calls lM 116 #[bj (some ⟨R,0,none⟩),.agg [bf bg d.it.ans.k,bf bg d.it.ans.lo,bf bg d.it.ans.hi,bf bg d.it.ans.pl,bh d.it.ans.ls,bi B1 d.it.ans.only.length b1,bk d.it.ans.sh,bi B2 d.it.ans.rs.length b2,bk d.it.ans.need,bi B3 d.it.ans.ch.length b3].toArray] w' λ e ag=>e = .returned (bf bg (JF f.lists d.it.ans))/\DD w' ag from λ w' q _ ha =>
    NG (kF.o.1.keep q) (UQ.o _ q) (br kF.o.2.2.1 q.size) ha)
   have aR:=qh (show qA wr B0 d.it.ans B1 b1 B2 b2 B3 b3 by cases hit;assumption);have KP:=qh (Qn (kF.o.1.keep b) kF.o.2.2.2 k hlt);have aV:=qh hlt;have fJ:=qh BI;obtain⟨p0,p1,a3,EZ⟩:=HS.o W2 BI;have c0:=UQ.o W2 b;have M:=HM.o.1.below qf tu;clear y H qL Nu hit a7 hc PU JL hA hd BW BI;go_upto_region 8 with (fail);rw[<- hW];clear JM Qs hW;go_upto_region 9 with (fail);rw[<- E];clear a4 a0 E;obtain⟨pg,ax⟩:=af (sV N k);rw[ax] at KP a;clear ax;go_upto_region 10 with (go_at_call 114;(with_reducible refine KP.o.mono ?_);rintro C v ⟨rfl,rfl⟩);obtain⟨x1,X⟩:=af (aW d.it.k 1 6);have K1:=qh (jk d.it.k 1 6 W2);obtain⟨x2,av⟩:=af (aP d.it.nm.data.toList);have Y:=qh (jE d.it.nm W2 J);rw[X] at K1 a;rw[av] at Y a;have Ar:=qh X;clear X av;cases x1
   case true =>
    have l:=qh (Q.o 4 (by decide) (by rw[a.o];simp));go_wp2_with (go_at_call 30;(with_reducible refine K1.o.mono ?_);rintro C v ⟨rfl,rfl⟩);go_ret;exact⟨aj l.o.symm,b⟩
   have a:=qh (a.o.trans (if_neg (by decide)));go_upto_region 12 with (go_at_call 30;(with_reducible refine K1.o.mono ?_);rintro C v ⟨rfl,rfl⟩);cases x2
   case false =>
    have l:=qh (Q.o 5 (by decide) (by rw[a.o];simp));go_wp2_with (go_at_call 23;(with_reducible refine Y.o.mono ?_);rintro C v ⟨rfl,rfl⟩);go_ret;exact⟨aj l.o.symm,b⟩
   by_cases ho:d.it.nm=uD
   .have l:=qh (Q.o 5 (by decide) (a.o.trans (if_pos (.inr ho))));have go_:=amu ho;clear ho;go_wp2_with (go_at_call 23;(with_reducible refine Y.o.mono ?_);rintro C w9 ⟨rfl,rfl⟩);go_ret;exact⟨aj l.o.symm,b⟩
   have a:=qh (a.o.trans (if_neg (λ h=>h.elim (by decide) ho)));have go_:=amv ho;clear ho;have hl:=M.get underlying204 (Yk W2) J;rw[HM.o.2.get d.it.nm] at hl;obtain⟨x3,aL⟩:=af ((N.take k).any (λ e=>decide (e.it.nm=d.it.nm)));rw[aL] at hl a;clear aL;cases x3
   case true =>
    have l:=qh (Q.o 6 (by decide) (a.o.trans (if_pos rfl)));go_wp2_with (go_at_call 23;(with_reducible refine Y.o.mono ?_);rintro C w9 ⟨rfl,rfl⟩);go_ret;exact⟨aj l.o.symm,b⟩
   have a:=qh (a.o.trans (if_neg (by decide)));have O:=qh (KX.o W2 qf (rZ Ar.o));obtain⟨x4,an⟩:=af (nZ d.it);rw[an] at O a;clear an;cases x4
   case true =>
    have l:=qh (Q.o 3 (by decide) (a.o.trans (if_pos rfl)));go_wp2_with (first
     | (go_at_call 23;(with_reducible refine Y.o.mono ?_);rintro C w9 ⟨rfl,rfl⟩)
     | (go_at_call 115;(with_reducible refine O.o.mono ?_);rintro C w3 ⟨rfl,t⟩))
    go_ret;exact⟨aj l.o.symm,b.trans (t.mono b.size)⟩
   have a:=qh (a.o.trans (if_neg (by decide)));go_upto_region 18 with (first
     | (go_at_call 23;(with_reducible refine Y.o.mono ?_);rintro C w9 ⟨rfl,rfl⟩)
     | (go_at_call 115;(with_reducible refine O.o.mono ?_);rintro C w3 ⟨rfl,t⟩))
   have n:=b.trans (t.mono b.size);have al:=fJ.o.below t fJ.o.lt;have aw:=qh (M.below t M.lt);have ay:kv.length<maxLen:=by
    have:=HM.o.2.1;rw[bp] at this;unfold maxLen;omega
   have ar:some W.heap.size≠some v.heap.size:=λ e=>by injection e with e;have:=oM.size;omega
   have ak:w.heap.size<=w3.heap.size:=n.size;have ap:=(qf.trans (t.mono qf.size)).mono (bm hB hs);have a5:=qh ap;clear p0 p1 a3 EZ c0 hl go_ ap K1 Y O KX M;obtain⟨p0,p1,-,-⟩:=HS.o w3 al;by_cases h4:d.it.k=4
   .obtain⟨g4,a6⟩:=iP h4;obtain⟨g1,U⟩:=fH (show ¬ d.it.k=1 by omega);obtain⟨g6,aM⟩:=fH (show ¬ d.it.k=6 by omega);have S:=qh h4;clear h4;cases pg
    case false =>
     have l:=qh (Q.o 7 (by decide) (a.o.trans (if_pos (.inr ⟨rfl,S.o⟩))));go_wp2;go_ret;exact⟨aj l.o.symm,n⟩
    have a:=qh (a.o.trans ((if_neg (by rintro (⟨-,h | h⟩ | ⟨h,-⟩) <;> first | (have:=S.o;omega) | cases h)).trans (if_pos S.o)));obtain⟨x5,ae⟩:=af (JF f.lists d.it.ans);rw[ae] at a;have aq:=qh (λ (P:World) (m:DD w P) (hr:Below B0 wr P)=>KA.o P m (.inr trivial) (aR.o.keep hr));rw[ae] at aq;clear ae KA;by_cases h5:x5=0
    case' pos =>
     have l:=qh (V.o (a.o.trans h5));obtain⟨g5,Xg⟩:=iP h5
    case' neg =>
     have l:=qh (Q.o _ h5 a.o);obtain⟨g5,Xg⟩:=fH h5
    all_goals clear h5
    all_goals
     go_wp2_with (first
      | (at_mapUpdate;refine iT rfl _ _ _ 204 4 rfl underlying204 rfl aw.o ay rfl rfl J ?_;intro P T p;have aa:=al.grown p ar;have m:=n.grown p ak (λ g hg=>by cases hg;exact G);obtain⟨z0,z1,z2,z3⟩:=HS.o P aa;have D:=qh (bl T ab.o);have c4:=UQ.o P m;have aE:=qh p)
      | (go_at_call 116;(with_reducible refine (aq.o _ m (a5.o.grown aE.o (bm hB ak) (λ g hg=>by cases hg;exact bm hB G))).mono ?_);rintro e5 w5 ⟨rfl,ac⟩))
    .go_ret;exact⟨aj l.o.symm,m.trans (ac.mono m.size)⟩
    go_roundw
    case rel=>exact⟨k+1,_,by go_num,aV.o,l,qh ⟨D.o.1.below ac D.o.1.lt,D.o.2⟩,m.trans (ac.mono m.size)⟩
    case measure =>
     have:=aV.o;simp[intOf];omega
   .obtain⟨g4,a6⟩:=fH h4;have S:=qh h4;clear h4;cases pg
    case' true =>
     by_cases h16:d.it.k=1\/d.it.k=6
     .have l:=qh (Q.o 7 (by decide) (a.o.trans (if_pos (.inl ⟨rfl,h16⟩))));by_cases h1:d.it.k=1
      case' pos =>
       obtain⟨g1,U⟩:=iP h1
      case' neg =>
       obtain⟨g1,U⟩:=fH h1;obtain⟨g6,aM⟩:=iP (h16.resolve_left h1)
      all_goals clear h1 h16
      all_goals
       go_wp2;go_ret;exact⟨aj l.o.symm,n⟩
     obtain⟨g1,U⟩:=fH (λ h=>h16 (.inl h));obtain⟨g6,aM⟩:=fH (λ h=>h16 (.inr h));have l:=qh (V.o (a.o.trans ((if_neg (by rintro (⟨-,h⟩ | ⟨h,-⟩);exact h16 h;cases h)).trans (if_neg S.o))));clear h16
    case' false =>
     have l:=qh (V.o (a.o.trans ((if_neg (by rintro (⟨h,-⟩ | ⟨-,h⟩);cases h;exact S.o h)).trans (if_neg S.o))))
    all_goals
     go_wp2_with (first
      | (at_mapUpdate;refine iT rfl _ _ _ 204 4 rfl underlying204 rfl aw.o ay rfl rfl J ?_;intro P T p;have aa:=al.grown p ar;have m:=n.grown p ak (λ g hg=>by cases hg;exact G);obtain⟨z0,z1,z2,z3⟩:=HS.o P aa;have D:=qh (bl T ab.o);have c4:=UQ.o P m;have aE:=qh p)
      | fail)
     go_roundw
     case rel=>exact⟨k+1,_,by go_num,aV.o,l,D,m⟩
     case measure =>
      have:=aV.o;simp[intOf];omega
  .have e:k=N.length:=by omega
   subst e;have l:=qh (HP.o.trans Yi);go_wp2;go_ret;exact⟨aj l.o.symm,hb⟩
end Go.Proofs.YtcnagconagpkcaaGreatDoor
