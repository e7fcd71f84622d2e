/- Lemmas. -/
import Derived.Test.YtcnagconagpkcaaGreatDoorZ19
import Derived.Laws.BytesArg
import Derived.Lib.Bytes
set_option maxHeartbeats 8000000
set_option maxRecDepth 100000
open Go.IntKind renaming i64->a6
open Go.Value renaming string->a7, slice->a8, pointer->a9, bool->ba
open Bool renaming eq_false_iff->bc
open UInt8 renaming toNat_inj->bd
open Go.World renaming news_of_block->bf
open List renaming mem_singleton->bg, length_append->bh, length_eq_zero_iff->bi, getElem?_eq_getElem->bj
namespace Go.Proofs.YtcnagconagpkcaaGreatDoor
open Go.RowKit Vtx
attribute [local go_sem ↓] Go.wp_at_zero Go.wp_at_succ
def kz (l:List UInt8):List Value:=l.map (λ x=>.int .u8 (x.toNat:Nat))
theorem ZI:(Tryz.prog.info? 5).map (λ i=>(i.zero,i.size,i.bytes))=some (some (.int .u8 0),1,1):=by kernel_rfl
theorem Hu {c:UInt8} (h:c.toNat=32):c=32:=bd.1 h
theorem VY (s:ByteArray) (w:World) (hs:s.size<=4000):IE 326 #[a7 s] w (a7 (tb (lX s.data.toList))):=by
 obtain⟨T,hT⟩:=af (lX s.data.toList);have an:=qh (show T = [] ++ BQ ([]:List UInt8).getLast? (s.data.toList.drop 0) by rw[<- hT,YV];rfl);rw[hT];clear hT;obtain⟨i0,X,ab,ac,Y⟩:=info_parts ZI;go_enter Tryz.func326,Tryz.ntmps326;go_wp2_with fail;go_loopw [4,3,5] (λ iv ov _ wz=>∃ (n:Nat) (b:List UInt8) (A:Option Addr) (c:Nat),iv = .int a6 (n:Nat)/\ov = a8 A b.length c/\Hid (n<=s.size)/\Hid (b.length<=n)/\Hid (wz.ownsRow w.heap.size 5 1 (a8 A b.length c) b.length (kz b))/\Hid (T=b ++ BQ b.getLast? (s.data.toList.drop n))/\IY w wz) (λ iv _ _ _=>s.size - (intOf iv).toNat)
 case atStart=>exact⟨0,[],none,0,rfl,rfl,qh (Nat.zero_le _),qh (Nat.le_refl _),qh ⟨rfl,.inl ⟨rfl,rfl⟩⟩,an,Below.refl _ _⟩
 case round =>
  obtain⟨n,b,A,c,rfl,rfl,ak,O,C,jP,f⟩:=hrel;by_cases hlt:n<s.size
  .have aW:=qh hlt;obtain⟨M,hM⟩:=af (b.length);have z:=qh hM;rw[hM] at C;rw[hM];have HN:=qh (show M<=4000 by have:=O.o;omega);have VK:((n:Nat):Int)<((s.size:Nat):Int):=by omega
   by_cases h32:(s[n]'hlt).toNat=32
   .obtain⟨J,hJ⟩:=aC (n+bZ bM (s.data.toList.drop n));have o:=qh (RJ (n:=n) (by rw[aY];exact hlt) (by rw[lS hlt];exact Hu h32) hJ jP.o);have ar:n+1<=J:=by
     have h1:=mQ hlt (show bM (s[n]'hlt)=true from decide_eq_true (Hu h32)) hJ;omega
    have p:=qh ar;have aD:J<=s.size:=by
     have h1:=qZ bM (s.data.toList.drop n);rw[List.length_drop,aY] at h1;omega
    have r:=qh aD;have aq:=qh hJ;have b1:(((s[n]'hlt).toNat:Int) == 32)=true:=by simp;omega
    have ax:((s[n]'hlt).toNat == 32)=true:=by simp;omega
    have a1:IntKind.i64.wrap (((J:Nat):Int) - 1)=((J - 1:Nat):Int):=by rw[show ((J:Nat):Int) - 1=((J - 1:Nat):Int) by omega];exact IntWalk.i64_in _ (by omega)
    have a5:IntKind.i64.wrap (((J - 1:Nat):Int)+1)=((J:Nat):Int):=by rw[show ((J - 1:Nat):Int)+1=((J:Nat):Int) by omega];exact IntWalk.i64_in _ (by omega)
    have E:=qh (show Hid (wr.ownsRow w.heap.size 5 1 (a8 A b.length c) b.length (kz b)) from qh (by rw[z.o];exact C.o));clear h32 hJ;go_wp2_with fail
    go_loop [5] (λ x=>∃ m:Nat,n<=m/\m<=s.size/\x = .int a6 m/\Hid (J=m+bZ bM (s.data.toList.drop m))) (λ x=>s.size - (intOf x).toNat)
    case atStart=>exact⟨n,Nat.le_refl _,ak.o,rfl,aq⟩
    case round =>
     obtain⟨m,a0,hm,rfl,HR⟩:=hrel;by_cases uK:m<s.size
     .have XQ:=qh uK;have ap:((m:Nat):Int)<((s.size:Nat):Int):=by omega
      by_cases h32:(s[m]'uK).toNat=32
      .have HG:=qh (mQ uK (show bM (s[m]'uK)=true from decide_eq_true (Hu h32)) HR.o);have b2:(((s[m]'uK).toNat:Int) == 32)=true:=by simp;omega
       clear h32;go_wp2_with fail
       go_round
       case rel=>exact⟨m+1,by omega,XQ.o,by go_num,HG⟩
       case measure =>
        have:=XQ.o;simp[intOf];omega
      .have Rq:=oG uK (show bM (s[m]'uK)=false from decide_eq_false (λ e=>h32 (by rw[e];rfl))) HR.o;have b2:(((s[m]'uK).toNat:Int) == 32)=false:=by simp;omega
       subst Rq;obtain⟨q,hq⟩:=af (gp (s[J]'uK));have v:=qh (λ w'=>(show Calls Tryz.prog 284 #[.int .u8 ((s[J]'uK).toNat:Nat)] w' λ e H=>e = .returned (ba q)/\w'=H from (jE (s[J]'uK) w').mono λ e H ⟨B,hw⟩=>⟨B.trans (congrArg (λ x=>Ending.returned (ba x)) hq),hw⟩));by_cases hM0:0<M
       .obtain⟨aa,a,i⟩:∃ aa a,b=aa ++ [a]:=by
         have ae:b≠[]:=by intro e;rw[e] at hM;simp at hM;omega
         exact⟨b.dropLast,b.getLast ae,(List.dropLast_concat_getLast ae).symm⟩
        obtain⟨ad,Q,-,l⟩:=(Reads.ig C.o).2 hM0;subst Q;have al:aa.length=M - 1:=by have h:=hM;rw[i] at h;simp at h;omega
        have a4:wr.cell? (ad.add (M - 1))=some (.int .u8 (a.toNat:Nat)):=l (M - 1) _ (by rw[i];unfold kz;simp[<- al]);have a2:IntKind.i64.wrap (((M:Nat):Int) - 1)=((M - 1:Nat):Int):=by rw[show ((M:Nat):Int) - 1=((M - 1:Nat):Int) by omega];exact IntWalk.i64_in _ (by have:=HN.o;omega)
        have a3:M - 1<M:=by omega
        have aR:(0:Int)<((M:Nat):Int):=by omega
        have aM:((M - 1:Nat):Int)<((M:Nat):Int):=by omega
        have aE:(0:Int)<=((M - 1:Nat):Int):=by omega
        have V:=qh (show lL b.getLast? (s.data.toList.drop J)=((gp a || decide (a=35)) && q) by rw[i,VX (by rw[aY];exact uK),lS uK,hq]);obtain⟨d,hd⟩:=af (gp a);have G:=qh (λ w'=>(show Calls Tryz.prog 284 #[.int .u8 (a.toNat:Nat)] w' λ e H=>e = .returned (ba d)/\w'=H from (jE a w').mono λ e H ⟨B,hw⟩=>⟨B.trans (congrArg (λ x=>Ending.returned (ba x)) hd),hw⟩));rw[hd] at V;clear l al i hd hq h32;cases d
        .by_cases B:a=35
         .have be:((a.toNat:Int) == 35)=true:=by rw[B];rfl
          have aw:(a.toNat == 35)=true:=by rw[B];rfl
          rw[decide_eq_true B] at V;clear B;cases q
          .have L:=qh (show lL b.getLast? (s.data.toList.drop J)=false from V.o);have g:=qh (xM (L.o) o.o);go_wp2_with (first | (go_at_call 284;(with_reducible refine (G.o _).mono ?_);rintro e K ⟨rfl,rfl⟩) | (go_at_call 284;(with_reducible refine (v.o _).mono ?_);rintro e K ⟨rfl,rfl⟩));go_roundw
           case rel=>exact⟨J,b,_,c,rfl,by rw[z.o],r,qh (by have:=O.o;have:=p.o;omega),E.o,g,f⟩
           case measure =>
            have:=p.o;have:=r.o;simp[intOf];omega
          .have Z:=qh (show lL b.getLast? (s.data.toList.drop J)=true from V.o);have g:=qh (JY Z.o o.o);go_upto_region 11 with (first | (go_at_call 284;(with_reducible refine (G.o _).mono ?_);rintro e K ⟨rfl,rfl⟩) | (go_at_call 284;(with_reducible refine (v.o _).mono ?_);rintro e K ⟨rfl,rfl⟩));go_wp2_with (at_builtin;refine wpList_append_lies _ rfl _ _ 218 rfl w.heap.size 5 i0 (.int .u8 0) 1 1 Tryz.underlying218 X ab ac Y rfl (by decide) _ _ _ rfl (C.o.alloc _) ⟨wr.heap.size,0,none⟩ 1 1 [.int .u8 32] rfl rfl ?d1 ?d2 (by decide) ?d3 ?d4 ?d5 _ rfl ?_)
           case d1=>exact bf (ah.new wr 5 _)
           case d2=>intro u R;simp only[bg] at R;subst R;rfl
           case d3=>have:=HN.o;unfold maxLen;omega
           case d4=>have:=HN.o;omega
           case d5=>have:=f.size;simp;omega
           intro g7 t w7 W U Bq O9;have ZJ:IY w w7:=(f.alloc f.size _).grown U (by have:=f.size;simp;omega) (λ k hk=>(C.o.lt k hk).1);have F:=qh W;have y:(b ++ [(32:UInt8)]).length=M+1:=by rw[bh,z.o];rfl
           have N:kz (b ++ [(32:UInt8)])=kz b ++ [.int .u8 32]:=by simp[kz]
           have D:=qh (show w7.ownsRow w.heap.size 5 1 (a8 (some ⟨g7,0,none⟩) (b ++ [(32:UInt8)]).length t) (b ++ [(32:UInt8)]).length (kz (b ++ [(32:UInt8)])) by rw[y,N];exact F.o);have S:=qh y;clear W U Bq O9 y N;go_wp2_with fail;go_roundw
           case rel=>exact⟨J,b ++ [32],_,_,rfl,by rw[S.o],r,qh (by rw[S.o];have:=O.o;have:=z.o;have:=p.o;omega),D,g,ZJ⟩
           case measure =>
            have:=p.o;have:=r.o;simp[intOf];omega
         .have be:((a.toNat:Int) == 35)=false:=by
           have h1:a.toNat≠35:=λ e=>B (bd.1 e);simp;omega
          have aw:(a.toNat == 35)=false:=by
           have h1:a.toNat≠35:=λ e=>B (bd.1 e);simp;omega
          rw[decide_eq_false B] at V;clear B;have L:=qh (show lL b.getLast? (s.data.toList.drop J)=false from V.o);have g:=qh (xM (L.o) o.o);go_wp2_with (first | (go_at_call 284;(with_reducible refine (G.o _).mono ?_);rintro e K ⟨rfl,rfl⟩) | (go_at_call 284;(with_reducible refine (v.o _).mono ?_);rintro e K ⟨rfl,rfl⟩));go_roundw
          case rel=>exact⟨J,b,_,c,rfl,by rw[z.o],r,qh (by have:=O.o;have:=p.o;omega),E.o,g,f⟩
          case measure =>
           have:=p.o;have:=r.o;simp[intOf];omega
        .cases q
         .have L:=qh (show lL b.getLast? (s.data.toList.drop J)=false from V.o);have g:=qh (xM (L.o) o.o);go_wp2_with (first | (go_at_call 284;(with_reducible refine (G.o _).mono ?_);rintro e K ⟨rfl,rfl⟩) | (go_at_call 284;(with_reducible refine (v.o _).mono ?_);rintro e K ⟨rfl,rfl⟩));go_roundw
          case rel=>exact⟨J,b,_,c,rfl,by rw[z.o],r,qh (by have:=O.o;have:=p.o;omega),E.o,g,f⟩
          case measure =>
           have:=p.o;have:=r.o;simp[intOf];omega
         .have Z:=qh (show lL b.getLast? (s.data.toList.drop J)=true from V.o);have g:=qh (JY Z.o o.o);go_upto_region 11 with (first | (go_at_call 284;(with_reducible refine (G.o _).mono ?_);rintro e K ⟨rfl,rfl⟩) | (go_at_call 284;(with_reducible refine (v.o _).mono ?_);rintro e K ⟨rfl,rfl⟩));go_wp2_with (at_builtin;refine wpList_append_lies _ rfl _ _ 218 rfl w.heap.size 5 i0 (.int .u8 0) 1 1 Tryz.underlying218 X ab ac Y rfl (by decide) _ _ _ rfl (C.o.alloc _) ⟨wr.heap.size,0,none⟩ 1 1 [.int .u8 32] rfl rfl ?d1 ?d2 (by decide) ?d3 ?d4 ?d5 _ rfl ?_)
          case d1=>exact bf (ah.new wr 5 _)
          case d2=>intro u R;simp only[bg] at R;subst R;rfl
          case d3=>have:=HN.o;unfold maxLen;omega
          case d4=>have:=HN.o;omega
          case d5=>have:=f.size;simp;omega
          intro g7 t w7 W U Bq O9;have ZJ:IY w w7:=(f.alloc f.size _).grown U (by have:=f.size;simp;omega) (λ k hk=>(C.o.lt k hk).1);have F:=qh W;have y:(b ++ [(32:UInt8)]).length=M+1:=by rw[bh,z.o];rfl
          have N:kz (b ++ [(32:UInt8)])=kz b ++ [.int .u8 32]:=by simp[kz]
          have D:=qh (show w7.ownsRow w.heap.size 5 1 (a8 (some ⟨g7,0,none⟩) (b ++ [(32:UInt8)]).length t) (b ++ [(32:UInt8)]).length (kz (b ++ [(32:UInt8)])) by rw[y,N];exact F.o);have S:=qh y;clear W U Bq O9 y N;go_wp2_with fail;go_roundw
          case rel=>exact⟨J,b ++ [32],_,_,rfl,by rw[S.o],r,qh (by rw[S.o];have:=O.o;have:=z.o;have:=p.o;omega),D,g,ZJ⟩
          case measure =>
           have:=p.o;have:=r.o;simp[intOf];omega
       .have am:M=0:=by omega
        subst am;have i:b = []:=bi.1 hM;have I:lL b.getLast? (s.data.toList.drop J)=false:=by rw[i];rfl
        have L:=qh I;clear i I h32;have g:=qh (xM (L.o) o.o);go_wp2_with (first | (go_at_call 284;(with_reducible refine (v.o _).mono ?_);rintro e K ⟨rfl,rfl⟩));go_roundw
        case rel=>exact⟨J,b,_,c,rfl,by rw[z.o],r,qh (by have:=O.o;have:=p.o;omega),E.o,g,f⟩
        case measure =>
         have:=p.o;have:=r.o;simp[intOf];omega
     .have Rq:=qK uK HR.o;have av:m=s.size:=by omega
      subst Rq;have I:lL b.getLast? (s.data.toList.drop J)=false:=VW (by rw[aY];exact uK);have L:=qh I;have ap:¬ ((J:Nat):Int)<((s.size:Nat):Int):=by omega
      clear I av;have g:=qh (xM (L.o) o.o);go_wp2_with (fail);go_roundw
      case rel=>exact⟨J,b,_,c,rfl,by rw[z.o],r,qh (by have:=O.o;have:=p.o;omega),E.o,g,f⟩
      case measure =>
       have:=p.o;have:=r.o;simp[intOf];omega
   .have g:=qh (ZH (n:=n) (by rw[aY];exact hlt) (by rw[lS hlt];exact λ e=>h32 (by rw[e];rfl)) jP.o);rw[lS hlt] at g;have b1:(((s[n]'hlt).toNat:Int) == 32)=false:=by simp;omega
    have ax:((s[n]'hlt).toNat == 32)=false:=by simp;omega
    clear h32;go_upto_region 6 with (fail);go_wp2_with (at_builtin;refine wpList_append_lies _ rfl _ _ 218 rfl w.heap.size 5 i0 (.int .u8 0) 1 1 Tryz.underlying218 X ab ac Y rfl (by decide) _ _ _ rfl (C.o.alloc _) ⟨wr.heap.size,0,none⟩ 1 1 [.int .u8 ((s[n]'hlt).toNat:Nat)] rfl rfl ?d1 ?d2 (by decide) ?d3 ?d4 ?d5 _ rfl ?_)
    case d1=>exact bf (ah.new wr 5 _)
    case d2=>intro u R;simp only[bg] at R;subst R;rfl
    case d3=>have:=HN.o;unfold maxLen;omega
    case d4=>have:=HN.o;omega
    case d5=>have:=f.size;simp;omega
    intro g7 t w7 W U Bq O9;have ZJ:IY w w7:=(f.alloc f.size _).grown U (by have:=f.size;simp;omega) (λ k hk=>(C.o.lt k hk).1);have F:=qh W;have y:(b ++ [s[n]'hlt]).length=M+1:=by rw[bh,z.o];rfl
    have N:kz (b ++ [s[n]'hlt])=kz b ++ [.int .u8 ((s[n]'hlt).toNat:Nat)]:=by simp[kz]
    have D:=qh (show w7.ownsRow w.heap.size 5 1 (a8 (some ⟨g7,0,none⟩) (b ++ [s[n]'hlt]).length t) (b ++ [s[n]'hlt]).length (kz (b ++ [s[n]'hlt])) by rw[y,N];exact F.o);have S:=qh y;clear W U Bq O9 y N;go_wp2_with fail;go_roundw
    case rel=>exact⟨n+1,b ++ [s[n]'hlt],_,_,by go_num,by rw[S.o],aW,qh (by rw[S.o];have:=O.o;have:=z.o;omega),D,g,ZJ⟩
    case measure =>
     have:=aW.o;simp[intOf];omega
  .have ao:n=s.size:=by have:=ak.o;omega
   have ay:=qh (show T=b by rw[jP.o,List.drop_eq_nil_of_le (by rw[aY];omega),YU,List.append_nil]);have VK:¬ ((n:Nat):Int)<((s.size:Nat):Int):=by omega
   have kc:(convert 218 9 (a8 A b.length c)).run Tryz.prog wr = .ok (a7 (tb b)) wr:=by
    rcases C.o.2 with ⟨h0,h1⟩ | ⟨g',t,aL,e0,y,N,e3⟩
    .injection h0 with Q hl hc;subst Q;have hn:b = []:=bi.1 hl;subst hn;exact run_convert_bytes_nil wr 218 5 Tryz.underlying218 Tryz.underlying5 _ _ _ Tryz.underlying9
    .injection e0 with Q hl hc;subst Q;have h1:=run_convert_bytes_arg (P:=Tryz.prog) wr 218 5 Tryz.underlying218 Tryz.underlying5 g' 0 b.length c (b.map (λ x=>(x.toNat:Int))) (by simp) (λ j hj=>by
      obtain⟨ad,Q,-,l⟩:=(Reads.ig C.o).2 (by omega);injection Q with Q;subst Q;have h2:=l j (.int .u8 ((b.map (λ x=>(x.toNat:Int))).getD j 0)) (by unfold kz;simp[List.getD,hj]);have e:(⟨g',0,none⟩:Addr).add j=⟨g',0+j,none⟩:=by unfold Addr.add;split <;> simp_all
      rw[e] at h2;exact h2) _ Tryz.underlying9
     rw[h1];congr 2;unfold tb;refine ByteArray.ext (Array.toList_inj.1 ?_);rw[strOfNums_data,List.map_map]
     conv=>rhs;rw[<- List.map_id b]
     refine List.map_congr_left (λ x _=>?_);simp
   clear ao;go_wp2_with fail;go_ret;exact⟨by rw[ay.o];rfl,f⟩
theorem zN:∀ (f:Nat) (a l:List UInt8),(rE f a l).length<=a.length+l.length
 | 0,a,l=>by simp[rE]
 | f+1,a,[]=>by simp[rE]
 | f+1,a,c :: r=>by
  rw[rE];split
  .have d:=zN f (a ++ [c]) r;simp at d ⊢;omega
  .obtain⟨e,b⟩:=af ((if Tn a (r.dropWhile bM) then a ++ [32] else a));have h:e.length<=a.length+1:=by rw[<- b];split <;> simp
   rw[b];have d:=zN f e (r.dropWhile bM);have g:=GX r;simp only[List.length_cons];omega
theorem VZ (l:List UInt8):(lX l).length<=l.length:=by
 have h:=zN (l.length+1) [] l;simpa [lX] using h
theorem Hw (g:Nat) (s:ByteArray) (i:Nat) (w:World) (hp:aT w g s i) (hm:TM w g) (t:Tok) (r:List Tok) (hL:wordsOf s.data.toList i=t :: r) :
  Calls Tryz.prog 322 #[a9 (some ⟨g,0,none⟩)] w λ e w'=>wG w g s (match vP (if rF t.tx then lX t.tx else t.tx) with
   | some v=>.ok [lD v] r
   | none=>.err t.at_) e w':=by
 have nV:=qh hp;have HM:=qh hm;have ak:=hp.b.lt;have G:=iH hL;obtain⟨ea,et,eh⟩:=jV G.1;obtain⟨tl,C,am⟩:=sW G.1;obtain⟨c0,al⟩:=af (s.data.toList.getD t.at_ 0);rw[al] at C;have Be:=gq G.1;rw[aY] at Be;have ax:=hp.s;have aw:t.tx.length<=4000:=by omega
 have PK:=qh (show r=wordsOf s.data.toList (aS s i+(aO s i).length) by rw[ea,et];exact G.2);have Rh:=qh (show t.at_=aS s i from ea.symm);have c2:w.cell? ⟨g,2,none⟩=some (a7 (tb t.tx)):=by have h:=hp.b.cell 2;rw[et] at h;exact h
 have M:rF t.tx=decide (c0=123):=by unfold rF;rw[C]
 obtain⟨R,hR⟩:∃ R,(match vP (if rF t.tx then lX t.tx else t.tx) with
   | some v=>yD.ok [lD v] r
   | none=>yD.err t.at_)=R:=⟨_,rfl⟩
 have V3:=qh hR;rw[hR];obtain⟨v,hv⟩:=af (tb t.tx);have K:=qh hv;have aq:0<v.size:=by rw[<- hv,kY,C];simp
 have p:v[0]=c0:=by
  subst hv;have I:(tb t.tx).data.toList[0]?=some c0:=by rw[jJ,C];rfl
  have h2:(tb t.tx).data.toList[0]?=some (tb t.tx)[0]:=by
   rw[bj (by rw[aY];exact aq)];rfl
  rw[h2] at I;injection I
 rw[hv] at c2;have D9:=qh (show tb (aO s i)=v by rw[et];exact hv);clear hR hv ea et eh C am al G Be hL hp hm;by_cases hb:c0=123
 .have bb:((v[0].toNat:Int) == 123)=true:=by rw[p,hb];rfl
  have ap:(v[0].toNat == 123)=true:=by rw[p,hb];rfl
  rw[M,decide_eq_true hb,if_pos rfl] at V3;clear M hb p;go_enter Tryz.func322,Tryz.ntmps322;go_upto_region 1 with (fail);obtain⟨W,hW,H,BR,ae,Q,-⟩:=fB g w;have iY:=qh (show aT W g s i by rw[hW];exact nV.o.alloc _);have vM:=qh (HM.o.kp H);have mJ:=qh BR;rw[<- hW];clear hW BR;have d2:W.cell? ⟨g,2,none⟩=some (a7 v):=by have h:=iY.o.b.cell 2;rw[show tb (aO s i)=v from D9.o] at h;exact h
  go_wp2_with fail;refine (VY v W (by rw[<- K.o,kY];omega)).mono ?_;rintro e w2 ⟨rfl,j⟩;have N:v.data.toList=t.tx:=by rw[<- K.o,jJ]
  rw[N];have T:=qh (Kp.of (g:=g) j);go_wp2_with fail;have aa:=qh (iY.o.below j);have jA:=qh (H.trans (Kp.of j));have rU:=qh (mJ.o.below j mJ.o.lt);clear j;have F:=qh (HM.o.kp jA.o).tab;refine (G6 (tb (lX t.tx)) w2 (by rw[kY];have:=VZ t.tx;omega) F.o.1 F.o.2).mono ?_;rw[jJ];rintro e d ⟨z,l⟩;obtain⟨x,A,c,f,rfl,E,hA,U,S,q1,q2⟩:=z.ex;have Pv:x.l.length<=maxLen:=by unfold maxLen;omega
  have Px:x.s.size<=maxLen:=by unfold maxLen;omega
  have Z:=qh (And.intro E hA);have X:=qh (And.intro q1 q2);have ac:=l.size;have V:=qh (aa.o.below l);have Py:=qh (rU.o.below l rU.o.lt);have Aj:=qh (jA.o.trans (Kp.of l));have Hg:W.heap.size<=w2.heap.size:=T.o.size;clear z E hA q1 q2 U S l;by_cases hf:f=0
  .have HV:=qh (X.o.1 hf);have D:=Dt HV.o.1 HV.o.2;have UK:=qh D;subst hf;clear D;go_upto_region 5 with (fail);obtain⟨W3,a⟩:=aC (d.alloc (.cells (BO x A c) 65 (0,0)));have JX:=qh (show aT W3 g s i by rw[a];exact V.o.alloc _);have zM:=qh (show ZB W3 w.heap.size by rw[a];exact Py.o.alloc _);have O:=qh (show ah W3 d.heap.size 65 (BO x A c) by rw[a];exact ah.new d _ _);have qU:=qh (show Kp g w W3 by rw[a];exact Aj.o.alloc _);have PD:W3.heap.size=d.heap.size+1:=by rw[a];simp
   have B:=qh (show Reads W3 W3.heap.size 1 A x.l.length (bI a6 x.l) by
    have I:IY d W3:=by rw[a];exact (Below.refl _ _).alloc (Nat.le_refl _) _
    exact (Z.o.1.below I).more I.size)
   rw[<- a];clear a;have an:g<d.heap.size:=V.o.b.lt;go_wp2_with (go_at_call 254;(with_reducible refine (next_any g s i _ JX.o).mono ?_);rintro e u ⟨rfl,sD,o⟩;have wI:=qh sD;have nS:=qh o;have J:=O.o.kp o (by omega);have y:=zM.o.kp o (by omega);have uf:u.cell? ⟨d.heap.size,0,none⟩=some (.int a6 x.k):=J.cell 0;have ug:u.cell? ⟨d.heap.size,1,none⟩=some (.int a6 x.n):=J.cell 1;have Cc:u.cell? ⟨d.heap.size,2,none⟩=some (a7 x.s):=J.cell 2;have TP:u.cell? ⟨d.heap.size,3,none⟩=some (a8 A x.l.length c):=J.cell 3;clear sD o);refine (uU x.k x.n x.s A x.l.length c u).mono ?_;rintro e w5 ⟨rfl,m⟩;have B5:=y.below m y.lt;have ar:=qh (tu (q:=λ b=>d.heap.size<=b+d.heap.size/\b≠g) (c:=c) B.o (λ ad e=>⟨by omega,by have:=Z.o.2 ad e;omega⟩) Pv Px);have JW:=qh (tu (q:=λ b=>W.heap.size<=b) (c:=c) B.o (λ ad e=>by have:=Z.o.2 ad e;omega) Pv Px);have ab:=qh (((JW.o.Zm nS.o (λ k hk=>by omega)).keep (dN.of m)).up m.size);obtain⟨dO,kD,eH,kE,ik,oV,iq,oW,jK,yQ,jL,yR,jM,yS,jO,yT⟩:=ah.z8 B5;go_wp2_with fail;refine bodyPost_ret (v:=.agg #[.int a6 1,.int a6 0,a7 ⟨#[]⟩,.int a6 x.k,.int a6 x.n,a7 x.s,a8 A x.l.length c,a8 none 0 0]) (by simp[results,Tryz.results322,go_sem,dO,eH,ik,iq,jK,jL,jM,jO]) rfl ?_;have n:R = .ok [lD x] (wordsOf s.data.toList (aS s i+(aO s i).length)):=by rw[<- V3.o,UK.o,PK.o]
   rw[n];exact sZ (L:=W.heap.size) (x:=lD x) (A':=none) (c':=0) ab.o Q ak (wI.o.below m) ((qU.o.trans nS.o).trans (Kp.of m))
  .have ao:(f == 0)=false:=by simp[hf]
   have yt:=qh (zH (X.o.2 hf).2.2);have av:=qh (X.o.2 hf).1;clear hf;have n:R = .err (aS s i):=by rw[<- V3.o,yt.o,Rh.o]
   go_wp2_with (go_at_call 256;(with_reducible refine (iD g s i _ (V.o.alloc _)).mono ?_);rintro e u ⟨rfl,rfl⟩);refine⟨rfl,?_⟩;rw[n];exact⟨rfl,Aj.o.alloc _⟩
 .have bb:((v[0].toNat:Int) == 123)=false:=by
   have I:v[0].toNat≠123:=λ e=>hb (by rw[<- p];exact bd.1 e);simp;omega
  have ap:(v[0].toNat == 123)=false:=by
   have I:v[0].toNat≠123:=λ e=>hb (by rw[<- p];exact bd.1 e);simp;omega
  rw[M,decide_eq_false hb,if_neg (by decide)] at V3;clear M hb p;go_enter Tryz.func322,Tryz.ntmps322;go_upto_region 1 with (fail);obtain⟨W,hW,H,BR,ae,Q,-⟩:=fB g w;have iY:=qh (show aT W g s i by rw[hW];exact nV.o.alloc _);have vM:=qh (HM.o.kp H);have mJ:=qh BR;rw[<- hW];clear hW BR;have d2:W.cell? ⟨g,2,none⟩=some (a7 v):=by have h:=iY.o.b.cell 2;rw[show tb (aO s i)=v from D9.o] at h;exact h
  obtain⟨w2,P⟩:=aC (W);have j:IY W w2:=by rw[P];exact Below.refl _ _
  have T:=qh (Kp.of (g:=g) j);go_wp2_with fail;rw[<- P];clear P;have aa:=qh (iY.o.below j);have jA:=qh (H.trans (Kp.of j));have rU:=qh (mJ.o.below j mJ.o.lt);clear j;have F:=qh (HM.o.kp jA.o).tab;have N:v.data.toList=t.tx:=by rw[<- K.o,jJ]
  have Y:=G6 v w2 (by rw[<- K.o,kY];omega) F.o.1 F.o.2;rw[N] at Y;refine Y.mono ?_;clear Y N;rintro e d ⟨z,l⟩;obtain⟨x,A,c,f,rfl,E,hA,U,S,q1,q2⟩:=z.ex;have Pv:x.l.length<=maxLen:=by unfold maxLen;omega
  have Px:x.s.size<=maxLen:=by unfold maxLen;omega
  have Z:=qh (And.intro E hA);have X:=qh (And.intro q1 q2);have ac:=l.size;have V:=qh (aa.o.below l);have Py:=qh (rU.o.below l rU.o.lt);have Aj:=qh (jA.o.trans (Kp.of l));have Hg:W.heap.size<=w2.heap.size:=T.o.size;clear z E hA q1 q2 U S l;by_cases hf:f=0
  .have HV:=qh (X.o.1 hf);have D:=Dt HV.o.1 HV.o.2;have UK:=qh D;subst hf;clear D;go_upto_region 5 with (fail);obtain⟨W3,a⟩:=aC (d.alloc (.cells (BO x A c) 65 (0,0)));have JX:=qh (show aT W3 g s i by rw[a];exact V.o.alloc _);have zM:=qh (show ZB W3 w.heap.size by rw[a];exact Py.o.alloc _);have O:=qh (show ah W3 d.heap.size 65 (BO x A c) by rw[a];exact ah.new d _ _);have qU:=qh (show Kp g w W3 by rw[a];exact Aj.o.alloc _);have PD:W3.heap.size=d.heap.size+1:=by rw[a];simp
   have B:=qh (show Reads W3 W3.heap.size 1 A x.l.length (bI a6 x.l) by
    have I:IY d W3:=by rw[a];exact (Below.refl _ _).alloc (Nat.le_refl _) _
    exact (Z.o.1.below I).more I.size)
   rw[<- a];clear a;have an:g<d.heap.size:=V.o.b.lt;go_wp2_with (go_at_call 254;(with_reducible refine (next_any g s i _ JX.o).mono ?_);rintro e u ⟨rfl,sD,o⟩;have wI:=qh sD;have nS:=qh o;have J:=O.o.kp o (by omega);have y:=zM.o.kp o (by omega);have uf:u.cell? ⟨d.heap.size,0,none⟩=some (.int a6 x.k):=J.cell 0;have ug:u.cell? ⟨d.heap.size,1,none⟩=some (.int a6 x.n):=J.cell 1;have Cc:u.cell? ⟨d.heap.size,2,none⟩=some (a7 x.s):=J.cell 2;have TP:u.cell? ⟨d.heap.size,3,none⟩=some (a8 A x.l.length c):=J.cell 3;clear sD o);refine (uU x.k x.n x.s A x.l.length c u).mono ?_;rintro e w5 ⟨rfl,m⟩;have B5:=y.below m y.lt;have ar:=qh (tu (q:=λ b=>d.heap.size<=b+d.heap.size/\b≠g) (c:=c) B.o (λ ad e=>⟨by omega,by have:=Z.o.2 ad e;omega⟩) Pv Px);have JW:=qh (tu (q:=λ b=>W.heap.size<=b) (c:=c) B.o (λ ad e=>by have:=Z.o.2 ad e;omega) Pv Px);have ab:=qh (((JW.o.Zm nS.o (λ k hk=>by omega)).keep (dN.of m)).up m.size);obtain⟨dO,kD,eH,kE,ik,oV,iq,oW,jK,yQ,jL,yR,jM,yS,jO,yT⟩:=ah.z8 B5;go_wp2_with fail;refine bodyPost_ret (v:=.agg #[.int a6 1,.int a6 0,a7 ⟨#[]⟩,.int a6 x.k,.int a6 x.n,a7 x.s,a8 A x.l.length c,a8 none 0 0]) (by simp[results,Tryz.results322,go_sem,dO,eH,ik,iq,jK,jL,jM,jO]) rfl ?_;have n:R = .ok [lD x] (wordsOf s.data.toList (aS s i+(aO s i).length)):=by rw[<- V3.o,UK.o,PK.o]
   rw[n];exact sZ (L:=W.heap.size) (x:=lD x) (A':=none) (c':=0) ab.o Q ak (wI.o.below m) ((qU.o.trans nS.o).trans (Kp.of m))
  .have ao:(f == 0)=false:=by simp[hf]
   have yt:=qh (zH (X.o.2 hf).2.2);have av:=qh (X.o.2 hf).1;clear hf;have n:R = .err (aS s i):=by rw[<- V3.o,yt.o,Rh.o]
   go_wp2_with (go_at_call 256;(with_reducible refine (iD g s i _ (V.o.alloc _)).mono ?_);rintro e u ⟨rfl,rfl⟩);refine⟨rfl,?_⟩;rw[n];exact⟨rfl,Aj.o.alloc _⟩
noncomputable def Hy (x:List UInt8) (a:Nat) (r:List Tok):yD:=match vP x with
 | some v=>.ok [lD v] r
 | none=>.err a
theorem Md (g:Nat) (s:ByteArray) (i:Nat) (w:World) (c:aT w g s i) (b:TM w g) (t:Tok) (r:List Tok) (d:wordsOf s.data.toList i=t :: r) :
  Calls Tryz.prog 322 #[a9 (some ⟨g,0,none⟩)] w λ e w'=>wG w g s (Hy (if rF t.tx then lX t.tx else t.tx) t.at_ r) e w':=by
 refine (Hw g s i w c b t r d).mono ?_;intro e w' h;unfold Hy;obtain⟨x,a⟩:=af (vP (if rF t.tx then lX t.tx else t.tx));rw[a] at h ⊢;cases x <;> exact h
theorem RN {n:Nat} {t:Tok} {r:List Tok} (h:t.touch=true):Pz n .cO [] (t :: r) = .err t.at_:=by rw[iR];dsimp only[iP];rw[if_pos h]
theorem RP {n:Nat} {t:Tok} {r:List Tok} (h:t.touch=false) (a:lF t.tx=true):Pz n .cO [] (t :: r)=Hy (if rF t.tx then lX t.tx else t.tx) t.at_ r:=by rw[iR];dsimp only[iP];rw[if_neg (by rw[h];decide),if_pos a];unfold Hy;cases vP (if rF t.tx then lX t.tx else t.tx) <;> rfl
theorem PL {n:Nat} {t:Tok} {r:List Tok} (h:t.touch=false) (a:t.tx = [40]):Pz n .cO [] (t :: r)=(Pz n .or [] r).bind λ b c=>dR n [41] c λ l2=>.ok b l2:=by
 rw[iR];dsimp only[iP];rw[if_neg (by rw[h];decide),if_neg (by rw[a];decide),if_pos a]
theorem ZK {n:Nat} {t:Tok} {r:List Tok} (h:t.touch=false) (c:lF t.tx=false) (a:t.tx≠[40]) (b:nameB t.tx=false):Pz n .cO [] (t :: r) = .err t.at_:=by
 rw[iR];dsimp only[iP];rw[if_neg (by rw[h];decide),if_neg (by rw[c];decide),if_neg a,if_pos b]
theorem RQ {n:Nat} {t:Tok} {r:List Tok} (h:t.touch=false) (d:lF t.tx=false) (a:t.tx≠[40]) (c:nameB t.tx=true) (b:pR t r=false):Pz n .cO [] (t :: r) = .ok [iO 2 0 t.tx []] r:=by
 rw[iR];dsimp only[iP];rw[if_neg (by rw[h];decide),if_neg (by rw[d];decide),if_neg a,if_neg (by rw[c];decide),if_pos b]
theorem V4 {n:Nat} {t:Tok} {r:List Tok} (h:t.touch=false) (g:lF t.tx=false) (c:t.tx≠[40]) (f:nameB t.tx=true) (e:pR t r=true) (d:gX t.tx=0) (b:lG t.tx=0) (a:t.tx≠zt):Pz n .cO [] (t :: r) = .ok [iO 2 0 t.tx []] r:=by
 rw[iR];dsimp only[iP];rw[if_neg (by rw[h];decide),if_neg (by rw[g];decide),if_neg c,if_neg (by rw[f];decide),if_neg (by rw[e];decide),if_neg (λ h=>h d),if_neg (λ h=>h b),if_neg a]
theorem V5 {n:Nat} {t:Tok} {r:List Tok} (h:t.touch=false) (j:lF t.tx=false) (f:t.tx≠[40]) (i:nameB t.tx=true) (g:pR t r=true) (d:¬ (gX t.tx=0/\lG t.tx=0/\t.tx≠zt)):Pz n .cO [] (t :: r)=tC n t.tx r.tail:=by
 rw[iR];dsimp only[iP];rw[if_neg (by rw[h];decide),if_neg (by rw[j];decide),if_neg f,if_neg (by rw[i];decide),if_neg (by rw[g];decide)];unfold tC;by_cases ho:gX t.tx=0
 .have b:¬ (gX t.tx≠0):=λ h=>h ho;rw[if_neg b,if_neg b];by_cases hq:lG t.tx=0
  .have nq:¬ (lG t.tx≠0):=λ h=>h hq;rw[if_neg nq,if_neg nq,if_pos (show t.tx=zt from Decidable.not_not.1 (λ e=>d ⟨ho,hq,e⟩))];cases nameAt r.tail <;> rfl
  .have a:lG t.tx≠0:=hq;rw[if_pos a,if_pos a]
 .have c:gX t.tx≠0:=ho;rw[if_pos c,if_pos c];cases nameAt r.tail <;> rfl
theorem ZL (g:Nat) (s:ByteArray) (i:Nat) (w:World) (b:aT w g s i) (d:TM w g) (t u:Tok) (r:List Tok) (c:wordsOf s.data.toList i=t :: u :: r) (f:u.tx = [40]) (j:¬ (gX t.tx=0/\lG t.tx=0/\t.tx≠zt)) (a:∀ h,h.length<=r.length->fH 255 .or s h) :
  Calls Tryz.prog 324 #[a9 (some ⟨g,0,none⟩),a7 (tb t.tx)] w λ e w'=>Zt w g s (tC s.data.toList.length t.tx r) e w':=by
 by_cases ho:gX t.tx=0
 .by_cases hq:lG t.tx=0
  .exact ZG g s i w b d t u r c f (Decidable.not_not.1 (λ k=>j ⟨ho,hq,k⟩)) a
  .exact acG g s i w b d t u r c f ho hq a
 .exact VU g s i w b d t u r c f ho a
theorem kR {s:ByteArray} {i:Nat} {t:Tok} (w:dL s.data.toList i=some t):∃ (c0:UInt8) (r:List UInt8) (v:ByteArray) (c:0<v.size),s.data.toList.getD t.at_ 0=c0/\t.tx=c0 :: r/\c0≠32/\tb t.tx=v/\v[0]=c0/\v.toList.isEmpty=false /\
  Hid (∀ w',KG 284 #[.int .u8 (v[0].toNat:Nat)] w' (ba (gp c0)))/\Hid (∀ w',KG 55 #[.int .u8 (v[0].toNat:Nat)] w' (ba (nN c0))) /\
  Hid (∀ w',KG 56 #[a7 v] w' (ba (bH.contains t.tx))) /\
  lF t.tx=((gp c0 || decide (c0=64) || decide (c0=35) || decide (c0=39) || decide (c0=123)) || decide (t.tx=qX) || decide (t.tx=nH))/\nameB t.tx=(nN c0 && !bH.contains t.tx)/\(∀ l:List UInt8,t.tx=l->(v.toList == (tb l).toList)=true)/\(∀ l:List UInt8,t.tx≠l->(v.toList == (tb l).toList)=false):=by
 obtain⟨r,b,k⟩:=sW w;obtain⟨c0,m⟩:=af (s.data.toList.getD t.at_ 0);rw[m] at b k;obtain⟨v,f⟩:=af (tb t.tx);have c:0<v.size:=by rw[<- f,kY,b];simp
 have d:v[0]=c0:=by
  subst f;have g:(tb t.tx).data.toList[0]?=some c0:=by rw[jJ,b];rfl
  have n:(tb t.tx).data.toList[0]?=some (tb t.tx)[0]:=by
   rw[bj (by rw[aY];exact c)];rfl
  rw[n] at g;injection g
 have o:v.toList.isEmpty=false:=by
  cases h:v.toList.isEmpty with
  | false=>rfl
  | true =>
   have g:v.toList = []:=List.isEmpty_iff.1 h;have n:(v.toList == (⟨#[]⟩:ByteArray).toList)=true:=by rw[g];simp
   have u:(v.toList == (⟨#[]⟩:ByteArray).toList)=false:=dE (λ e=>by rw[e] at c;exact absurd c (by decide));rw[u] at n;cases n
 have y:=qh (show ∀ w',Calls Tryz.prog 284 #[.int .u8 (v[0].toNat:Nat)] w' λ e a=>e = .returned (ba (gp c0))/\w'=a from λ w'=>by rw[d];exact jE c0 w');have x:=qh (show ∀ w',Calls Tryz.prog 55 #[.int .u8 (v[0].toNat:Nat)] w' λ e a=>e = .returned (ba (nN c0))/\w'=a from λ w'=>by rw[d];exact oL c0 w');have z:=qh (show ∀ w',Calls Tryz.prog 56 #[a7 v] w' λ e a=>e = .returned (ba (bH.contains t.tx))/\w'=a from λ w'=>by
  have g:=nz v w'
  rwa [show v.data.toList=t.tx from by rw[<- f,jJ]] at g)
 have q:lF t.tx=((gp c0 || decide (c0=64) || decide (c0=35) || decide (c0=39) || decide (c0=123)) || decide (t.tx=qX) || decide (t.tx=nH)):=by
  unfold lF;congr 1;congr 1;rw[b]
 have p:nameB t.tx=(nN c0 && !bH.contains t.tx):=by
  unfold nameB;congr 1;rw[b]
 have j:∀ l:List UInt8,t.tx=l->(v.toList == (tb l).toList)=true:=λ l h=>jb (by rw[<- f,h]);have A:∀ l:List UInt8,t.tx≠l->(v.toList == (tb l).toList)=false:=λ l h=>dE (λ e=>h (LV (by rw[f,e])));exact⟨c0,r,v,c,m,b,k,f,d,o,y,x,z,q,p,j,A⟩
theorem PM (g:Nat) (s:ByteArray) (i:Nat) (w:World) (b:aT w g s i) (c:wordsOf s.data.toList i = []) :
  Calls Tryz.prog 319 #[a9 (some ⟨g,0,none⟩)] w λ e w'=>wG w g s (Pz s.data.toList.length .cO [] []) e w':=by
 have q:=qh b;have r:=b.b.lt;have k:=qh (λ W (b:aT W g s i)=>iD g s i W b);have m:Pz s.data.toList.length .cO [] [] = .err (aS s i):=by
  rw[iR];dsimp only[iP];have h:=mV s i;rw[c] at h;rw[<- h];rfl
 have a:aO s i = []:=by
  unfold aO;cases ht:dL s.data.toList i with
  | none=>rfl
  | some t=>rw[iF,ht] at c;cases c
 have j:=qh a;rw[m];clear m a b c;go_enter Tryz.func319,Tryz.ntmps319;go_upto_region 1 with (fail);obtain⟨W,f,d,n,l,p,-⟩:=fB g w;have o:=qh (show aT W g s i by rw[f];exact q.o.alloc _);have x:=qh n;rw[<- f];clear f n;have v:W.cell? ⟨g,2,none⟩=some (a7 ⟨#[]⟩):=by have h:=o.o.b.cell 2;rw[j.o] at h;exact h
 go_wp2_with (go_at_call 256;(with_reducible refine (k.o _ o.o).mono ?_);rintro e u ⟨rfl,rfl⟩);exact⟨rfl,rfl,d⟩
theorem Jc (g:Nat) (s:ByteArray) (i:Nat) (w:World) (b:aT w g s i) (B:TM w g) (t:Tok) (r:List Tok) (k:wordsOf s.data.toList i=t :: r) (F:t.touch=true) :
  Calls Tryz.prog 319 #[a9 (some ⟨g,0,none⟩)] w λ e w'=>wG w g s (Pz s.data.toList.length .cO [] (t :: r)) e w':=by
 have M:=qh b;have N:=qh B;have O:=b.b.lt;have K:=b.s;have a:=iH k;obtain⟨u,p,G⟩:=jV a.1;obtain⟨c0,tl,v,I,y,f,o,j,l,H,zL,qO,I9,x,n,c,Q⟩:=kR a.1;have D:=gq a.1;rw[aY] at D;have U:=qh (show r=wordsOf s.data.toList (aS s i+(aO s i).length) by rw[u,p];exact a.2);have J:=qh (show t.at_=aS s i from u.symm);have Y:=qh a.1;have V:=qh k;have T:=qh j;have P:=qh (show tb (aO s i)=v by rw[p];exact j);have E:=qh G;have z:=qh (λ W (b:aT W g s i)=>iD g s i W b);rw[RN F,J.o];rw[F] at E;clear l x n c Q a u p G f o y D j k b B;go_enter Tryz.func319,Tryz.ntmps319;go_upto_region 1 with (fail);obtain⟨W,q,d,C,A,L,-⟩:=fB g w;have m:=qh (show aT W g s i by rw[q];exact M.o.alloc _);have S:=qh (N.o.kp d);have mJ:=qh C;rw[<- q];clear q C;have Z:W.cell? ⟨g,2,none⟩=some (a7 v):=by have h:=m.o.b.cell 2;rw[show tb (aO s i)=v from P.o] at h;exact h
 have X:W.cell? ⟨g,3,none⟩=some (ba true):=by have h:=m.o.b.cell 3;rw[E.o] at h;exact h
 go_wp2_with (go_at_call 256;(with_reducible refine (z.o _ m.o).mono ?_);rintro e R ⟨rfl,rfl⟩);exact⟨rfl,rfl,d⟩
theorem Jd (g:Nat) (s:ByteArray) (i:Nat) (w:World) (x:aT w g s i) (hm:TM w g) (t:Tok) (r:List Tok) (hL:wordsOf s.data.toList i=t :: r) (ht:t.touch=false) (A:lF t.tx=true) :
  Calls Tryz.prog 319 #[a9 (some ⟨g,0,none⟩)] w λ e w'=>wG w g s (Pz s.data.toList.length .cO [] (t :: r)) e w':=by
 have nV:=qh x;have HM:=qh hm;have S:=x.b.lt;have am:=x.s;have b:=iH hL;obtain⟨ea,I,eh⟩:=jV b.1;obtain⟨E,tl,v,al,ab,L,H,P,a,ak,o,qO,I9,C,N,c,ji⟩:=kR b.1;have Be:=gq b.1;rw[aY] at Be;have PK:=qh (show r=wordsOf s.data.toList (aS s i+(aO s i).length) by rw[ea,I];exact b.2);have Rh:=qh (show t.at_=aS s i from ea.symm);have sQ:=qh b.1;have OD:=qh hL;have HV:=qh P;have D9:=qh (show tb (aO s i)=v by rw[I];exact P);have jP:=qh eh;have ad:=qh (λ W (x:aT W g s i)=>iD g s i W x);rw[RP ht A];rw[ht] at jP;obtain⟨R,hR⟩:=af (Hy (if rF t.tx then lX t.tx else t.tx) t.at_ r);have M:=qh hR;rw[hR];rw[C] at A;simp only[Bool.or_eq_true,decide_eq_true_iff] at A;clear hR;by_cases h0:gp E=true
 case' pos =>
  rw[h0] at o
 case' neg =>
  by_cases h64:E=64
  case' pos =>
   rw[bc.2 h0] at o;have f:((v[0].toNat:Int) == 64)=true:=by rw[a,h64];rfl
   have d:(v[0].toNat == 64)=true:=by rw[a,h64];rfl
  case' neg =>
   by_cases h35:E=35
   case' pos =>
    rw[bc.2 h0] at o;obtain⟨f,d⟩:=fA (z:=64) (n:=64) a h64 rfl rfl;have l:((v[0].toNat:Int) == 35)=true:=by rw[a,h35];rfl
    have m:(v[0].toNat == 35)=true:=by rw[a,h35];rfl
   case' neg =>
    by_cases qI:E=39
    case' pos =>
     rw[bc.2 h0] at o;obtain⟨f,d⟩:=fA (z:=64) (n:=64) a h64 rfl rfl;obtain⟨l,m⟩:=fA (z:=35) (n:=35) a h35 rfl rfl;have u:((v[0].toNat:Int) == 39)=true:=by rw[a,qI];rfl
     have p:(v[0].toNat == 39)=true:=by rw[a,qI];rfl
    case' neg =>
     by_cases iG:E=123
     case' pos =>
      rw[bc.2 h0] at o;obtain⟨f,d⟩:=fA (z:=64) (n:=64) a h64 rfl rfl;obtain⟨l,m⟩:=fA (z:=35) (n:=35) a h35 rfl rfl;obtain⟨u,p⟩:=fA (z:=39) (n:=39) a qI rfl rfl;have RS:((v[0].toNat:Int) == 123)=true:=by rw[a,iG];rfl
      have RU:(v[0].toNat == 123)=true:=by rw[a,iG];rfl
     case' neg =>
      by_cases ht1:t.tx=qX
      case' pos =>
       rw[bc.2 h0] at o;obtain⟨f,d⟩:=fA (z:=64) (n:=64) a h64 rfl rfl;obtain⟨l,m⟩:=fA (z:=35) (n:=35) a h35 rfl rfl;obtain⟨u,p⟩:=fA (z:=39) (n:=39) a qI rfl rfl;obtain⟨RS,RU⟩:=fA (z:=123) (n:=123) a iG rfl rfl;have st:(v.toList == [116,114,117,101])=true:=by have h:=c [116,114,117,101] ht1;simpa [tb] using h
      case' neg =>
       have O:t.tx=nH:=by simp only[h0,h64,h35,qI,iG,ht1,false_or] at A;first | exact A | (rcases A with h | h <;> first | exact absurd h (by decide) | exact h)
       rw[bc.2 h0] at o;obtain⟨f,d⟩:=fA (z:=64) (n:=64) a h64 rfl rfl;obtain⟨l,m⟩:=fA (z:=35) (n:=35) a h35 rfl rfl;obtain⟨u,p⟩:=fA (z:=39) (n:=39) a qI rfl rfl;obtain⟨RS,RU⟩:=fA (z:=123) (n:=123) a iG rfl rfl;have st:(v.toList == [116,114,117,101])=false:=by have h:=ji [116,114,117,101] ht1;simpa [tb] using h
       have sf:(v.toList == [102,97,108,115,101])=true:=by have h:=c [102,97,108,115,101] O;simpa [tb] using h
 all_goals
  clear a C N c ji b ea I eh L H ab Be P x hm;go_enter Tryz.func319,Tryz.ntmps319;go_upto_region 1 with (fail);obtain⟨W,T,q,BR,ac,G,-⟩:=fB g w;have X:=qh (show aT W g s i by rw[T];exact nV.o.alloc _);have vM:=qh (HM.o.kp q);have mJ:=qh BR;rw[<- T];clear T BR;have d2:W.cell? ⟨g,2,none⟩=some (a7 v):=by have h:=X.o.b.cell 2;rw[show tb (aO s i)=v from D9.o] at h;exact h
  have d3:W.cell? ⟨g,3,none⟩=some (ba false):=by have h:=X.o.b.cell 3;rw[jP.o] at h;exact h
  go_wp2_with (go_at_call 284;(with_reducible refine (o.o _).mono ?_);rintro e w1 ⟨rfl,rfl⟩);refine (Md g s i W X.o vM.o t r OD.o).mono ?_;rw[M.o];cases R with
  | err k =>
   rintro e w1 ⟨rfl,j⟩;go_wp2_with fail;exact⟨rfl,rfl,q.trans j⟩
  | ok es l1 =>
   rintro e w1 ⟨y,i1,ae,rfl,rfl,rfl,D,J,j⟩;have EC:=qh D;obtain⟨F,Q,Z,aa,xJ,xK,B⟩:=D;rename_i Y K U V Pn;clear xJ xK B F Q Z aa;have o8:(ai y Y K U V).toArray = (BC y Y K U y.ar.length V):=rfl;rw[o8];clear o8;have B1:=mJ.o.kp j (by omega);obtain⟨dO,kD,eH,kE,ik,oV,iq,oW,jK,yQ,jL,yR,jM,yS,jO,yT⟩:=ah.z8 B1;go_wp2_with fail;refine bodyPost_ret (v:=.agg (BC y Y K U y.ar.length V)) (by simp[results,Tryz.results319,go_sem,dO,eH,ik,iq,jK,jL,jM,jO]) rfl ?_;exact sZ EC.o G S J (q.trans j)
end Go.Proofs.YtcnagconagpkcaaGreatDoor
