/- Lemmas. -/
import Derived.Test.YtcnagconagpkcaaGreatDoorZ16
import Derived.Laws.BytesArg
import Derived.Lib.Bytes
set_option maxHeartbeats 8000000
set_option maxRecDepth 100000
open Go.IntKind renaming i64->a7
open Go.Value renaming string->a8, slice->a9, pointer->ba, bool->bc
open Bool renaming eq_false_iff->bd
open UInt8 renaming toNat_inj->bf
open Go.World renaming news_of_block->bg
open List renaming mem_singleton->bh, length_append->bi, length_eq_zero_iff->bj, getElem?_eq_getElem->bk
namespace Go.Proofs.YtcnagconagpkcaaGreatDoor
open Go.RowKit Vtx
attribute [local go_sem ↓] Go.wp_at_zero Go.wp_at_succ
def jX (l:List UInt8):List Value:=l.map (λ x=>.int .u8 (x.toNat:Nat))
theorem Zg:(Tryz.prog.info? 5).map (λ i=>(i.zero,i.size,i.bytes))=some (some (.int .u8 0),1,1):=by kernel_rfl
theorem Gt {c:UInt8} (h:c.toNat=32):c=32:=bf.1 h
theorem VE (s:ByteArray) (w:World) (hs:s.size<=4000):CS 326 #[a8 s] w (a8 (tb (lU s.data.toList))):=by
 obtain⟨T,hT⟩:=af (lU s.data.toList);have aA:=qh (show T = [] ++ Bc ([]:List UInt8).getLast? (s.data.toList.drop 0) by rw[<- hT,Yx];rfl);rw[hT];clear hT;obtain⟨i0,ac,aa,ak,ab⟩:=info_parts Zg;go_enter Tryz.func326,Tryz.ntmps326;go_wp2_with fail;go_loopw [4,3,5] (λ iv ov _ wz=>∃ (n:Nat) (b:List UInt8) (A:Option Addr) (c:Nat),iv = .int a7 (n:Nat)/\ov = a9 A b.length c/\Hid (n<=s.size)/\Hid (b.length<=n)/\Hid (wz.ownsRow w.heap.size 5 1 (a9 A b.length c) b.length (jX b))/\Hid (T=b ++ Bc b.getLast? (s.data.toList.drop n))/\EG w wz) (λ iv _ _ _=>s.size - (intOf iv).toNat)
 case atStart=>exact⟨0,[],none,0,rfl,rfl,qh (Nat.zero_le _),qh (Nat.le_refl _),qh ⟨rfl,.inl ⟨rfl,rfl⟩⟩,aA,Below.refl _ _⟩
 case round =>
  obtain⟨n,b,A,c,rfl,rfl,am,o,I,jD,f⟩:=hrel;by_cases hlt:n<s.size
  .have aX:=qh hlt;obtain⟨M,Z⟩:=af (b.length);have B:=qh Z;rw[Z] at I;rw[Z];have X:=qh (show M<=4000 by have:=o.o;omega);have Vp:((n:Nat):Int)<((s.size:Nat):Int):=by omega
   by_cases h32:(s[n]'hlt).toNat=32
   .obtain⟨J,hJ⟩:=aH (n+bJ bC (s.data.toList.drop n));have p:=qh (QT (n:=n) (by rw[aT];exact hlt) (by rw[lN hlt];exact Gt h32) hJ jD.o);have av:n+1<=J:=by
     have h1:=mG hlt (show bC (s[n]'hlt)=true from decide_eq_true (Gt h32)) hJ;omega
    have t:=qh av;have ay:J<=s.size:=by
     have h1:=qN bC (s.data.toList.drop n);rw[List.length_drop,aT] at h1;omega
    have r:=qh ay;have ar:=qh hJ;have b1:(((s[n]'hlt).toNat:Int) == 32)=true:=by simp;omega
    have ax:((s[n]'hlt).toNat == 32)=true:=by simp;omega
    have aM:IntKind.i64.wrap (((J:Nat):Int) - 1)=((J - 1:Nat):Int):=by rw[show ((J:Nat):Int) - 1=((J - 1:Nat):Int) by omega];exact IntWalk.i64_in _ (by omega)
    have a6:IntKind.i64.wrap (((J - 1:Nat):Int)+1)=((J:Nat):Int):=by rw[show ((J - 1:Nat):Int)+1=((J:Nat):Int) by omega];exact IntWalk.i64_in _ (by omega)
    have K:=qh (show Hid (wr.ownsRow w.heap.size 5 1 (a9 A b.length c) b.length (jX b)) from qh (by rw[B.o];exact I.o));clear h32 hJ;go_wp2_with fail
    go_loop [5] (λ x=>∃ m:Nat,n<=m/\m<=s.size/\x = .int a7 m/\Hid (J=m+bJ bC (s.data.toList.drop m))) (λ x=>s.size - (intOf x).toNat)
    case atStart=>exact⟨n,Nat.le_refl _,am.o,rfl,ar⟩
    case round =>
     obtain⟨m,aR,hm,rfl,HR⟩:=hrel;by_cases uq:m<s.size
     .have al:=qh uq;have aw:((m:Nat):Int)<((s.size:Nat):Int):=by omega
      by_cases h32:(s[m]'uq).toNat=32
      .have HG:=qh (mG uq (show bC (s[m]'uq)=true from decide_eq_true (Gt h32)) HR.o);have b2:(((s[m]'uq).toNat:Int) == 32)=true:=by simp;omega
       clear h32;go_wp2_with fail
       go_round
       case rel=>exact⟨m+1,by omega,al.o,by go_num,HG⟩
       case measure =>
        have:=al.o;simp[intOf];omega
      .have QF:=nV uq (show bC (s[m]'uq)=false from decide_eq_false (λ e=>h32 (by rw[e];rfl))) HR.o;have b2:(((s[m]'uq).toNat:Int) == 32)=false:=by simp;omega
       subst QF;obtain⟨q,hq⟩:=af (fO (s[J]'uq));have y:=qh (λ w'=>(show Calls Tryz.prog 284 #[.int .u8 ((s[J]'uq).toNat:Nat)] w' λ e H=>e = .returned (bc q)/\w'=H from (jv (s[J]'uq) w').mono λ e H ⟨z,hw⟩=>⟨z.trans (congrArg (λ x=>Ending.returned (bc x)) hq),hw⟩));by_cases hM0:0<M
       .obtain⟨ae,a,i⟩:∃ ae a,b=ae ++ [a]:=by
         have an:b≠[]:=by intro e;rw[e] at Z;simp at Z;omega
         exact⟨b.dropLast,b.getLast an,(List.dropLast_concat_getLast an).symm⟩
        obtain⟨ad,Q,-,l⟩:=(Reads.fM I.o).2 hM0;subst Q;have ao:ae.length=M - 1:=by have h:=Z;rw[i] at h;simp at h;omega
        have aZ:wr.cell? (ad.add (M - 1))=some (.int .u8 (a.toNat:Nat)):=l (M - 1) _ (by rw[i];unfold jX;simp[<- ao]);have a5:IntKind.i64.wrap (((M:Nat):Int) - 1)=((M - 1:Nat):Int):=by rw[show ((M:Nat):Int) - 1=((M - 1:Nat):Int) by omega];exact IntWalk.i64_in _ (by have:=X.o;omega)
        have a0:M - 1<M:=by omega
        have a4:(0:Int)<((M:Nat):Int):=by omega
        have a1:((M - 1:Nat):Int)<((M:Nat):Int):=by omega
        have a3:(0:Int)<=((M - 1:Nat):Int):=by omega
        have W:=qh (show lF b.getLast? (s.data.toList.drop J)=((fO a || decide (a=35)) && q) by rw[i,VD (by rw[aT];exact uq),lN uq,hq]);obtain⟨d,hd⟩:=af (fO a);have G:=qh (λ w'=>(show Calls Tryz.prog 284 #[.int .u8 (a.toNat:Nat)] w' λ e H=>e = .returned (bc d)/\w'=H from (jv a w').mono λ e H ⟨z,hw⟩=>⟨z.trans (congrArg (λ x=>Ending.returned (bc x)) hd),hw⟩));rw[hd] at W;clear l ao i hd hq h32;cases d
        .by_cases z:a=35
         .have be:((a.toNat:Int) == 35)=true:=by rw[z];rfl
          have aD:(a.toNat == 35)=true:=by rw[z];rfl
          rw[decide_eq_true z] at W;clear z;cases q
          .have N:=qh (show lF b.getLast? (s.data.toList.drop J)=false from W.o);have g:=qh (wU (N.o) p.o);go_wp2_with (first | (go_at_call 284;(with_reducible refine (G.o _).mono ?_);rintro e L ⟨rfl,rfl⟩) | (go_at_call 284;(with_reducible refine (y.o _).mono ?_);rintro e L ⟨rfl,rfl⟩));go_roundw
           case rel=>exact⟨J,b,_,c,rfl,by rw[B.o],r,qh (by have:=o.o;have:=t.o;omega),K.o,g,f⟩
           case measure =>
            have:=t.o;have:=r.o;simp[intOf];omega
          .have Y:=qh (show lF b.getLast? (s.data.toList.drop J)=true from W.o);have g:=qh (Jh Y.o p.o);go_upto_region 11 with (first | (go_at_call 284;(with_reducible refine (G.o _).mono ?_);rintro e L ⟨rfl,rfl⟩) | (go_at_call 284;(with_reducible refine (y.o _).mono ?_);rintro e L ⟨rfl,rfl⟩));go_wp2_with (at_builtin;refine wpList_append_lies _ rfl _ _ 218 rfl w.heap.size 5 i0 (.int .u8 0) 1 1 Tryz.underlying218 ac aa ak ab rfl (by decide) _ _ _ rfl (I.o.alloc _) ⟨wr.heap.size,0,none⟩ 1 1 [.int .u8 32] rfl rfl ?d1 ?d2 (by decide) ?d3 ?d4 ?d5 _ rfl ?_)
           case d1=>exact bg (ag.new wr 5 _)
           case d2=>intro u R;simp only[bh] at R;subst R;rfl
           case d3=>have:=X.o;unfold maxLen;omega
           case d4=>have:=X.o;omega
           case d5=>have:=f.size;simp;omega
           intro g7 v w7 V S Ac Ol;have Zh:EG w w7:=(f.alloc f.size _).grown S (by have:=f.size;simp;omega) (λ k hk=>(I.o.lt k hk).1);have D:=qh V;have C:(b ++ [(32:UInt8)]).length=M+1:=by rw[bi,B.o];rfl
           have O:jX (b ++ [(32:UInt8)])=jX b ++ [.int .u8 32]:=by simp[jX]
           have F:=qh (show w7.ownsRow w.heap.size 5 1 (a9 (some ⟨g7,0,none⟩) (b ++ [(32:UInt8)]).length v) (b ++ [(32:UInt8)]).length (jX (b ++ [(32:UInt8)])) by rw[C,O];exact D.o);have U:=qh C;clear V S Ac Ol C O;go_wp2_with fail;go_roundw
           case rel=>exact⟨J,b ++ [32],_,_,rfl,by rw[U.o],r,qh (by rw[U.o];have:=o.o;have:=B.o;have:=t.o;omega),F,g,Zh⟩
           case measure =>
            have:=t.o;have:=r.o;simp[intOf];omega
         .have be:((a.toNat:Int) == 35)=false:=by
           have h1:a.toNat≠35:=λ e=>z (bf.1 e);simp;omega
          have aD:(a.toNat == 35)=false:=by
           have h1:a.toNat≠35:=λ e=>z (bf.1 e);simp;omega
          rw[decide_eq_false z] at W;clear z;have N:=qh (show lF b.getLast? (s.data.toList.drop J)=false from W.o);have g:=qh (wU (N.o) p.o);go_wp2_with (first | (go_at_call 284;(with_reducible refine (G.o _).mono ?_);rintro e L ⟨rfl,rfl⟩) | (go_at_call 284;(with_reducible refine (y.o _).mono ?_);rintro e L ⟨rfl,rfl⟩));go_roundw
          case rel=>exact⟨J,b,_,c,rfl,by rw[B.o],r,qh (by have:=o.o;have:=t.o;omega),K.o,g,f⟩
          case measure =>
           have:=t.o;have:=r.o;simp[intOf];omega
        .cases q
         .have N:=qh (show lF b.getLast? (s.data.toList.drop J)=false from W.o);have g:=qh (wU (N.o) p.o);go_wp2_with (first | (go_at_call 284;(with_reducible refine (G.o _).mono ?_);rintro e L ⟨rfl,rfl⟩) | (go_at_call 284;(with_reducible refine (y.o _).mono ?_);rintro e L ⟨rfl,rfl⟩));go_roundw
          case rel=>exact⟨J,b,_,c,rfl,by rw[B.o],r,qh (by have:=o.o;have:=t.o;omega),K.o,g,f⟩
          case measure =>
           have:=t.o;have:=r.o;simp[intOf];omega
         .have Y:=qh (show lF b.getLast? (s.data.toList.drop J)=true from W.o);have g:=qh (Jh Y.o p.o);go_upto_region 11 with (first | (go_at_call 284;(with_reducible refine (G.o _).mono ?_);rintro e L ⟨rfl,rfl⟩) | (go_at_call 284;(with_reducible refine (y.o _).mono ?_);rintro e L ⟨rfl,rfl⟩));go_wp2_with (at_builtin;refine wpList_append_lies _ rfl _ _ 218 rfl w.heap.size 5 i0 (.int .u8 0) 1 1 Tryz.underlying218 ac aa ak ab rfl (by decide) _ _ _ rfl (I.o.alloc _) ⟨wr.heap.size,0,none⟩ 1 1 [.int .u8 32] rfl rfl ?d1 ?d2 (by decide) ?d3 ?d4 ?d5 _ rfl ?_)
          case d1=>exact bg (ag.new wr 5 _)
          case d2=>intro u R;simp only[bh] at R;subst R;rfl
          case d3=>have:=X.o;unfold maxLen;omega
          case d4=>have:=X.o;omega
          case d5=>have:=f.size;simp;omega
          intro g7 v w7 V S Ac Ol;have Zh:EG w w7:=(f.alloc f.size _).grown S (by have:=f.size;simp;omega) (λ k hk=>(I.o.lt k hk).1);have D:=qh V;have C:(b ++ [(32:UInt8)]).length=M+1:=by rw[bi,B.o];rfl
          have O:jX (b ++ [(32:UInt8)])=jX b ++ [.int .u8 32]:=by simp[jX]
          have F:=qh (show w7.ownsRow w.heap.size 5 1 (a9 (some ⟨g7,0,none⟩) (b ++ [(32:UInt8)]).length v) (b ++ [(32:UInt8)]).length (jX (b ++ [(32:UInt8)])) by rw[C,O];exact D.o);have U:=qh C;clear V S Ac Ol C O;go_wp2_with fail;go_roundw
          case rel=>exact⟨J,b ++ [32],_,_,rfl,by rw[U.o],r,qh (by rw[U.o];have:=o.o;have:=B.o;have:=t.o;omega),F,g,Zh⟩
          case measure =>
           have:=t.o;have:=r.o;simp[intOf];omega
       .have aq:M=0:=by omega
        subst aq;have i:b = []:=bj.1 Z;have E:lF b.getLast? (s.data.toList.drop J)=false:=by rw[i];rfl
        have N:=qh E;clear i E h32;have g:=qh (wU (N.o) p.o);go_wp2_with (first | (go_at_call 284;(with_reducible refine (y.o _).mono ?_);rintro e L ⟨rfl,rfl⟩));go_roundw
        case rel=>exact⟨J,b,_,c,rfl,by rw[B.o],r,qh (by have:=o.o;have:=t.o;omega),K.o,g,f⟩
        case measure =>
         have:=t.o;have:=r.o;simp[intOf];omega
     .have QF:=qw uq HR.o;have ap:m=s.size:=by omega
      subst QF;have E:lF b.getLast? (s.data.toList.drop J)=false:=VC (by rw[aT];exact uq);have N:=qh E;have aw:¬ ((J:Nat):Int)<((s.size:Nat):Int):=by omega
      clear E ap;have g:=qh (wU (N.o) p.o);go_wp2_with (fail);go_roundw
      case rel=>exact⟨J,b,_,c,rfl,by rw[B.o],r,qh (by have:=o.o;have:=t.o;omega),K.o,g,f⟩
      case measure =>
       have:=t.o;have:=r.o;simp[intOf];omega
   .have g:=qh (Zf (n:=n) (by rw[aT];exact hlt) (by rw[lN hlt];exact λ e=>h32 (by rw[e];rfl)) jD.o);rw[lN hlt] at g;have b1:(((s[n]'hlt).toNat:Int) == 32)=false:=by simp;omega
    have ax:((s[n]'hlt).toNat == 32)=false:=by simp;omega
    clear h32;go_upto_region 6 with (fail);go_wp2_with (at_builtin;refine wpList_append_lies _ rfl _ _ 218 rfl w.heap.size 5 i0 (.int .u8 0) 1 1 Tryz.underlying218 ac aa ak ab rfl (by decide) _ _ _ rfl (I.o.alloc _) ⟨wr.heap.size,0,none⟩ 1 1 [.int .u8 ((s[n]'hlt).toNat:Nat)] rfl rfl ?d1 ?d2 (by decide) ?d3 ?d4 ?d5 _ rfl ?_)
    case d1=>exact bg (ag.new wr 5 _)
    case d2=>intro u R;simp only[bh] at R;subst R;rfl
    case d3=>have:=X.o;unfold maxLen;omega
    case d4=>have:=X.o;omega
    case d5=>have:=f.size;simp;omega
    intro g7 v w7 V S Ac Ol;have Zh:EG w w7:=(f.alloc f.size _).grown S (by have:=f.size;simp;omega) (λ k hk=>(I.o.lt k hk).1);have D:=qh V;have C:(b ++ [s[n]'hlt]).length=M+1:=by rw[bi,B.o];rfl
    have O:jX (b ++ [s[n]'hlt])=jX b ++ [.int .u8 ((s[n]'hlt).toNat:Nat)]:=by simp[jX]
    have F:=qh (show w7.ownsRow w.heap.size 5 1 (a9 (some ⟨g7,0,none⟩) (b ++ [s[n]'hlt]).length v) (b ++ [s[n]'hlt]).length (jX (b ++ [s[n]'hlt])) by rw[C,O];exact D.o);have U:=qh C;clear V S Ac Ol C O;go_wp2_with fail;go_roundw
    case rel=>exact⟨n+1,b ++ [s[n]'hlt],_,_,by go_num,by rw[U.o],aX,qh (by rw[U.o];have:=o.o;have:=B.o;omega),F,g,Zh⟩
    case measure =>
     have:=aX.o;simp[intOf];omega
  .have aE:n=s.size:=by have:=am.o;omega
   have aL:=qh (show T=b by rw[jD.o,List.drop_eq_nil_of_le (by rw[aT];omega),Yw,List.append_nil]);have Vp:¬ ((n:Nat):Int)<((s.size:Nat):Int):=by omega
   have kc:(convert 218 9 (a9 A b.length c)).run Tryz.prog wr = .ok (a8 (tb b)) wr:=by
    rcases I.o.2 with ⟨h0,h1⟩ | ⟨g',v,a2,e0,C,O,e3⟩
    .injection h0 with Q hl hc;subst Q;have hn:b = []:=bj.1 hl;subst hn;exact run_convert_bytes_nil wr 218 5 Tryz.underlying218 Tryz.underlying5 _ _ _ Tryz.underlying9
    .injection e0 with Q hl hc;subst Q;have h1:=run_convert_bytes_arg (P:=Tryz.prog) wr 218 5 Tryz.underlying218 Tryz.underlying5 g' 0 b.length c (b.map (λ x=>(x.toNat:Int))) (by simp) (λ j hj=>by
      obtain⟨ad,Q,-,l⟩:=(Reads.fM I.o).2 (by omega);injection Q with Q;subst Q;have h2:=l j (.int .u8 ((b.map (λ x=>(x.toNat:Int))).getD j 0)) (by unfold jX;simp[List.getD,hj]);have e:(⟨g',0,none⟩:Addr).add j=⟨g',0+j,none⟩:=by unfold Addr.add;split <;> simp_all
      rw[e] at h2;exact h2) _ Tryz.underlying9
     rw[h1];congr 2;unfold tb;refine ByteArray.ext (Array.toList_inj.1 ?_);rw[strOfNums_data,List.map_map]
     conv=>rhs;rw[<- List.map_id b]
     refine List.map_congr_left (λ x _=>?_);simp
   clear aE;go_wp2_with fail;go_ret;exact⟨by rw[aL.o];rfl,f⟩
theorem yY:∀ (f:Nat) (a l:List UInt8),(qY f a l).length<=a.length+l.length
 | 0,a,l=>by simp[qY]
 | f+1,a,[]=>by simp[qY]
 | f+1,a,c :: r=>by
  rw[qY];split
  .have e:=yY f (a ++ [c]) r;simp at e ⊢;omega
  .obtain⟨d,b⟩:=af ((if Sr a (r.dropWhile bC) then a ++ [32] else a));have g:d.length<=a.length+1:=by rw[<- b];split <;> simp
   rw[b];have e:=yY f d (r.dropWhile bC);have h:=FT r;simp only[List.length_cons];omega
theorem VF (l:List UInt8):(lU l).length<=l.length:=by
 have h:=yY (l.length+1) [] l;simpa [lU] using h
theorem Gu (g:Nat) (s:ByteArray) (i:Nat) (w:World) (hp:aP w g s i) (hm:TM w g) (t:Tok) (r:List Tok) (hL:wordsOf s.data.toList i=t :: r) :
  Calls Tryz.prog 322 #[ba (some ⟨g,0,none⟩)] w λ e w'=>vM w g s (match ve (if qZ t.tx then lU t.tx else t.tx) with
   | some v=>.ok [kX v] r
   | none=>.err t.at_) e w':=by
 have lL:=qh hp;have HM:=qh hm;have am:=hp.b.lt;have H:=iw hL;obtain⟨ea,et,eh⟩:=jU H.1;obtain⟨tl,G,ap⟩:=sN H.1;obtain⟨c0,ae⟩:=af (s.data.toList.getD t.at_ 0);rw[ae] at G;have zT:=fP H.1;rw[aT] at zT;have ay:=hp.s;have ax:t.tx.length<=4000:=by omega
 have OH:=qh (show r=wordsOf s.data.toList (aN s i+(aK s i).length) by rw[ea,et];exact H.2);have Qy:=qh (show t.at_=aN s i from ea.symm);have c2:w.cell? ⟨g,2,none⟩=some (a8 (tb t.tx)):=by have h:=hp.b.cell 2;rw[et] at h;exact h
 have M:qZ t.tx=decide (c0=123):=by unfold qZ;rw[G]
 obtain⟨R,hR⟩:∃ R,(match ve (if qZ t.tx then lU t.tx else t.tx) with
   | some v=>xQ.ok [kX v] r
   | none=>xQ.err t.at_)=R:=⟨_,rfl⟩
 have VG:=qh hR;rw[hR];obtain⟨v,hv⟩:=af (tb t.tx);have N:=qh hv;have av:0<v.size:=by rw[<- hv,kS,G];simp
 have u:v[0]=c0:=by
  subst hv;have I:(tb t.tx).data.toList[0]?=some c0:=by rw[jB,G];rfl
  have h2:(tb t.tx).data.toList[0]?=some (tb t.tx)[0]:=by
   rw[bk (by rw[aT];exact av)];rfl
  rw[h2] at I;injection I
 rw[hv] at c2;have Dv:=qh (show tb (aK s i)=v by rw[et];exact hv);clear hR hv ea et eh G ap ae H zT hL hp hm;by_cases hb:c0=123
 .have bb:((v[0].toNat:Int) == 123)=true:=by rw[u,hb];rfl
  have ar:(v[0].toNat == 123)=true:=by rw[u,hb];rfl
  rw[M,decide_eq_true hb,if_pos rfl] at VG;clear M hb u;go_enter Tryz.func322,Tryz.ntmps322;go_upto_region 1 with (fail);obtain⟨W,V,F,BR,al,S,-⟩:=fA g w;have iV:=qh (show aP W g s i by rw[V];exact lL.o.alloc _);have xU:=qh (HM.o.kp F);have mi:=qh BR;rw[<- V];clear V BR;have d2:W.cell? ⟨g,2,none⟩=some (a8 v):=by have h:=iV.o.b.cell 2;rw[show tb (aK s i)=v from Dv.o] at h;exact h
  go_wp2_with fail;refine (VE v W (by rw[<- N.o,kS];omega)).mono ?_;rintro e w2 ⟨rfl,m⟩;have J:v.data.toList=t.tx:=by rw[<- N.o,jB]
  rw[J];have Z:=qh (Kp.of (g:=g) m);go_wp2_with fail;have aa:=qh (iV.o.below m);have ng:=qh (F.trans (Kp.of m));have rD:=qh (mi.o.below m mi.o.lt);clear m;have y:=qh (HM.o.kp ng.o).tab;refine (FX (tb (lU t.tx)) w2 (by rw[kS];have:=VF t.tx;omega) y.o.1 y.o.2).mono ?_;rw[jB];rintro e d ⟨C,n⟩;obtain⟨x,A,c,f,rfl,E,hA,Q,ab,q1,q2⟩:=C.ex;have Oy:x.l.length<=maxLen:=by unfold maxLen;omega
  have Oz:x.s.size<=maxLen:=by unfold maxLen;omega
  have Y:=qh (And.intro E hA);have HQ:=qh (And.intro q1 q2);have ak:=n.size;have O:=qh (aa.o.below n);have OA:=qh (rD.o.below n rD.o.lt);have IC:=qh (ng.o.trans (Kp.of n));have Gj:W.heap.size<=w2.heap.size:=Z.o.size;clear C E hA q1 q2 Q ab n;by_cases hf:f=0
  .have HV:=qh (HQ.o.1 hf);have D:=CE HV.o.1 HV.o.2;have T:=qh D;subst hf;clear D;go_upto_region 5 with (fail);obtain⟨W3,a⟩:=aH (d.alloc (.cells (BK x A c) 65 (0,0)));have Jf:=qh (show aP W3 g s i by rw[a];exact O.o.alloc _);have yX:=qh (show ZB W3 w.heap.size by rw[a];exact OA.o.alloc _);have U:=qh (show ag W3 d.heap.size 65 (BK x A c) by rw[a];exact ag.new d _ _);have qH:=qh (show Kp g w W3 by rw[a];exact IC.o.alloc _);have OB:W3.heap.size=d.heap.size+1:=by rw[a];simp
   have z:=qh (show Reads W3 W3.heap.size 1 A x.l.length (bF a7 x.l) by
    have I:EG d W3:=by rw[a];exact (Below.refl _ _).alloc (Nat.le_refl _) _
    exact (Y.o.1.below I).more I.size)
   rw[<- a];clear a;have ao:g<d.heap.size:=O.o.b.lt;go_wp2_with (go_at_call 254;(with_reducible refine (next_any g s i _ Jf.o).mono ?_);rintro e p ⟨rfl,wQ,o⟩;have vO:=qh wQ;have oJ:=qh o;have K:=U.o.kp o (by omega);have B:=yX.o.kp o (by omega);have xO:p.cell? ⟨d.heap.size,0,none⟩=some (.int a7 x.k):=K.cell 0;have xP:p.cell? ⟨d.heap.size,1,none⟩=some (.int a7 x.n):=K.cell 1;have G6:p.cell? ⟨d.heap.size,2,none⟩=some (a8 x.s):=K.cell 2;have Ti:p.cell? ⟨d.heap.size,3,none⟩=some (a9 A x.l.length c):=K.cell 3;clear wQ o);refine (uC x.k x.n x.s A x.l.length c p).mono ?_;rintro e w5 ⟨rfl,l⟩;have B5:=B.below l B.lt;have aq:=qh (sS (q:=λ b=>d.heap.size<=b+d.heap.size/\b≠g) (c:=c) z.o (λ ad e=>⟨by omega,by have:=Y.o.2 ad e;omega⟩) Oy Oz);have Je:=qh (sS (q:=λ b=>W.heap.size<=b) (c:=c) z.o (λ ad e=>by have:=Y.o.2 ad e;omega) Oy Oz);have ac:=qh (((Je.o.YX oJ.o (λ k hk=>by omega)).keep (dI.of l)).up l.size);obtain⟨dM,jY,eQ,jZ,gW,oH,gX,oI,jM,yw,jO,yx,jP,yz,jQ,yA⟩:=ag.z8 B5;go_wp2_with fail;refine bodyPost_ret (v:=.agg #[.int a7 1,.int a7 0,a8 ⟨#[]⟩,.int a7 x.k,.int a7 x.n,a8 x.s,a9 A x.l.length c,a9 none 0 0]) (by simp[results,Tryz.results322,go_sem,dM,eQ,gW,gX,jM,jO,jP,jQ]) rfl ?_;have j:R = .ok [kX x] (wordsOf s.data.toList (aN s i+(aK s i).length)):=by rw[<- VG.o,T.o,OH.o]
   rw[j];exact sO (L:=W.heap.size) (x:=kX x) (A':=none) (c':=0) ac.o S am (vO.o.below l) ((qH.o.trans oJ.o).trans (Kp.of l))
  .have an:(f == 0)=false:=by simp[hf]
   have xH:=qh (yR (HQ.o.2 hf).2.2);have aw:=qh (HQ.o.2 hf).1;clear hf;have j:R = .err (aN s i):=by rw[<- VG.o,xH.o,Qy.o]
   go_wp2_with (go_at_call 256;(with_reducible refine (gV g s i _ (O.o.alloc _)).mono ?_);rintro e p ⟨rfl,rfl⟩);refine⟨rfl,?_⟩;rw[j];exact⟨rfl,IC.o.alloc _⟩
 .have bb:((v[0].toNat:Int) == 123)=false:=by
   have I:v[0].toNat≠123:=λ e=>hb (by rw[<- u];exact bf.1 e);simp;omega
  have ar:(v[0].toNat == 123)=false:=by
   have I:v[0].toNat≠123:=λ e=>hb (by rw[<- u];exact bf.1 e);simp;omega
  rw[M,decide_eq_false hb,if_neg (by decide)] at VG;clear M hb u;go_enter Tryz.func322,Tryz.ntmps322;go_upto_region 1 with (fail);obtain⟨W,V,F,BR,al,S,-⟩:=fA g w;have iV:=qh (show aP W g s i by rw[V];exact lL.o.alloc _);have xU:=qh (HM.o.kp F);have mi:=qh BR;rw[<- V];clear V BR;have d2:W.cell? ⟨g,2,none⟩=some (a8 v):=by have h:=iV.o.b.cell 2;rw[show tb (aK s i)=v from Dv.o] at h;exact h
  obtain⟨w2,P⟩:=aH (W);have m:EG W w2:=by rw[P];exact Below.refl _ _
  have Z:=qh (Kp.of (g:=g) m);go_wp2_with fail;rw[<- P];clear P;have aa:=qh (iV.o.below m);have ng:=qh (F.trans (Kp.of m));have rD:=qh (mi.o.below m mi.o.lt);clear m;have y:=qh (HM.o.kp ng.o).tab;have J:v.data.toList=t.tx:=by rw[<- N.o,jB]
  have X:=FX v w2 (by rw[<- N.o,kS];omega) y.o.1 y.o.2;rw[J] at X;refine X.mono ?_;clear X J;rintro e d ⟨C,n⟩;obtain⟨x,A,c,f,rfl,E,hA,Q,ab,q1,q2⟩:=C.ex;have Oy:x.l.length<=maxLen:=by unfold maxLen;omega
  have Oz:x.s.size<=maxLen:=by unfold maxLen;omega
  have Y:=qh (And.intro E hA);have HQ:=qh (And.intro q1 q2);have ak:=n.size;have O:=qh (aa.o.below n);have OA:=qh (rD.o.below n rD.o.lt);have IC:=qh (ng.o.trans (Kp.of n));have Gj:W.heap.size<=w2.heap.size:=Z.o.size;clear C E hA q1 q2 Q ab n;by_cases hf:f=0
  .have HV:=qh (HQ.o.1 hf);have D:=CE HV.o.1 HV.o.2;have T:=qh D;subst hf;clear D;go_upto_region 5 with (fail);obtain⟨W3,a⟩:=aH (d.alloc (.cells (BK x A c) 65 (0,0)));have Jf:=qh (show aP W3 g s i by rw[a];exact O.o.alloc _);have yX:=qh (show ZB W3 w.heap.size by rw[a];exact OA.o.alloc _);have U:=qh (show ag W3 d.heap.size 65 (BK x A c) by rw[a];exact ag.new d _ _);have qH:=qh (show Kp g w W3 by rw[a];exact IC.o.alloc _);have OB:W3.heap.size=d.heap.size+1:=by rw[a];simp
   have z:=qh (show Reads W3 W3.heap.size 1 A x.l.length (bF a7 x.l) by
    have I:EG d W3:=by rw[a];exact (Below.refl _ _).alloc (Nat.le_refl _) _
    exact (Y.o.1.below I).more I.size)
   rw[<- a];clear a;have ao:g<d.heap.size:=O.o.b.lt;go_wp2_with (go_at_call 254;(with_reducible refine (next_any g s i _ Jf.o).mono ?_);rintro e p ⟨rfl,wQ,o⟩;have vO:=qh wQ;have oJ:=qh o;have K:=U.o.kp o (by omega);have B:=yX.o.kp o (by omega);have xO:p.cell? ⟨d.heap.size,0,none⟩=some (.int a7 x.k):=K.cell 0;have xP:p.cell? ⟨d.heap.size,1,none⟩=some (.int a7 x.n):=K.cell 1;have G6:p.cell? ⟨d.heap.size,2,none⟩=some (a8 x.s):=K.cell 2;have Ti:p.cell? ⟨d.heap.size,3,none⟩=some (a9 A x.l.length c):=K.cell 3;clear wQ o);refine (uC x.k x.n x.s A x.l.length c p).mono ?_;rintro e w5 ⟨rfl,l⟩;have B5:=B.below l B.lt;have aq:=qh (sS (q:=λ b=>d.heap.size<=b+d.heap.size/\b≠g) (c:=c) z.o (λ ad e=>⟨by omega,by have:=Y.o.2 ad e;omega⟩) Oy Oz);have Je:=qh (sS (q:=λ b=>W.heap.size<=b) (c:=c) z.o (λ ad e=>by have:=Y.o.2 ad e;omega) Oy Oz);have ac:=qh (((Je.o.YX oJ.o (λ k hk=>by omega)).keep (dI.of l)).up l.size);obtain⟨dM,jY,eQ,jZ,gW,oH,gX,oI,jM,yw,jO,yx,jP,yz,jQ,yA⟩:=ag.z8 B5;go_wp2_with fail;refine bodyPost_ret (v:=.agg #[.int a7 1,.int a7 0,a8 ⟨#[]⟩,.int a7 x.k,.int a7 x.n,a8 x.s,a9 A x.l.length c,a9 none 0 0]) (by simp[results,Tryz.results322,go_sem,dM,eQ,gW,gX,jM,jO,jP,jQ]) rfl ?_;have j:R = .ok [kX x] (wordsOf s.data.toList (aN s i+(aK s i).length)):=by rw[<- VG.o,T.o,OH.o]
   rw[j];exact sO (L:=W.heap.size) (x:=kX x) (A':=none) (c':=0) ac.o S am (vO.o.below l) ((qH.o.trans oJ.o).trans (Kp.of l))
  .have an:(f == 0)=false:=by simp[hf]
   have xH:=qh (yR (HQ.o.2 hf).2.2);have aw:=qh (HQ.o.2 hf).1;clear hf;have j:R = .err (aN s i):=by rw[<- VG.o,xH.o,Qy.o]
   go_wp2_with (go_at_call 256;(with_reducible refine (gV g s i _ (O.o.alloc _)).mono ?_);rintro e p ⟨rfl,rfl⟩);refine⟨rfl,?_⟩;rw[j];exact⟨rfl,IC.o.alloc _⟩
noncomputable def Gv (x:List UInt8) (a:Nat) (r:List Tok):xQ:=match ve x with
 | some v=>.ok [kX v] r
 | none=>.err a
theorem Kr (g:Nat) (s:ByteArray) (i:Nat) (w:World) (b:aP w g s i) (d:TM w g) (t:Tok) (r:List Tok) (c:wordsOf s.data.toList i=t :: r) :
  Calls Tryz.prog 322 #[ba (some ⟨g,0,none⟩)] w λ e w'=>vM w g s (Gv (if qZ t.tx then lU t.tx else t.tx) t.at_ r) e w':=by
 refine (Gu g s i w b d t r c).mono ?_;intro e w' h;unfold Gv;obtain⟨x,a⟩:=af (ve (if qZ t.tx then lU t.tx else t.tx));rw[a] at h ⊢;cases x <;> exact h
theorem QU {n:Nat} {t:Tok} {r:List Tok} (h:t.touch=true):Pz n .bK [] (t :: r) = .err t.at_:=by rw[iJ];dsimp only[iI];rw[if_pos h]
theorem QV {n:Nat} {t:Tok} {r:List Tok} (h:t.touch=false) (a:kY t.tx=true):Pz n .bK [] (t :: r)=Gv (if qZ t.tx then lU t.tx else t.tx) t.at_ r:=by rw[iJ];dsimp only[iI];rw[if_neg (by rw[h];decide),if_pos a];unfold Gv;cases ve (if qZ t.tx then lU t.tx else t.tx) <;> rfl
theorem OI {n:Nat} {t:Tok} {r:List Tok} (h:t.touch=false) (a:t.tx = [40]):Pz n .bK [] (t :: r)=(Pz n .or [] r).bind λ b l1=>dL n [41] l1 λ l2=>.ok b l2:=by
 rw[iJ];dsimp only[iI];rw[if_neg (by rw[h];decide),if_neg (by rw[a];decide),if_pos a]
theorem Zi {n:Nat} {t:Tok} {r:List Tok} (h:t.touch=false) (c:kY t.tx=false) (a:t.tx≠[40]) (b:nameB t.tx=false):Pz n .bK [] (t :: r) = .err t.at_:=by
 rw[iJ];dsimp only[iI];rw[if_neg (by rw[h];decide),if_neg (by rw[c];decide),if_neg a,if_pos b]
theorem QW {n:Nat} {t:Tok} {r:List Tok} (h:t.touch=false) (c:kY t.tx=false) (a:t.tx≠[40]) (b:nameB t.tx=true) (d:pF t r=false):Pz n .bK [] (t :: r) = .ok [iH 2 0 t.tx []] r:=by
 rw[iJ];dsimp only[iI];rw[if_neg (by rw[h];decide),if_neg (by rw[c];decide),if_neg a,if_neg (by rw[b];decide),if_pos d]
theorem VH {n:Nat} {t:Tok} {r:List Tok} (h:t.touch=false) (d:kY t.tx=false) (b:t.tx≠[40]) (c:nameB t.tx=true) (e:pF t r=true) (g:gy t.tx=0) (f:kZ t.tx=0) (a:t.tx≠yJ):Pz n .bK [] (t :: r) = .ok [iH 2 0 t.tx []] r:=by
 rw[iJ];dsimp only[iI];rw[if_neg (by rw[h];decide),if_neg (by rw[d];decide),if_neg b,if_neg (by rw[c];decide),if_neg (by rw[e];decide),if_neg (λ h=>h g),if_neg (λ h=>h f),if_neg a]
theorem VI {n:Nat} {t:Tok} {r:List Tok} (h:t.touch=false) (g:kY t.tx=false) (e:t.tx≠[40]) (f:nameB t.tx=true) (i:pF t r=true) (j:¬ (gy t.tx=0/\kZ t.tx=0/\t.tx≠yJ)):Pz n .bK [] (t :: r)=sU n t.tx r.tail:=by
 rw[iJ];dsimp only[iI];rw[if_neg (by rw[h];decide),if_neg (by rw[g];decide),if_neg e,if_neg (by rw[f];decide),if_neg (by rw[i];decide)];unfold sU;by_cases ho:gy t.tx=0
 .have b:¬ (gy t.tx≠0):=λ h=>h ho;rw[if_neg b,if_neg b];by_cases hq:kZ t.tx=0
  .have nq:¬ (kZ t.tx≠0):=λ h=>h hq;rw[if_neg nq,if_neg nq,if_pos (show t.tx=yJ from Decidable.not_not.1 (λ d=>j ⟨ho,hq,d⟩))];cases nameAt r.tail <;> rfl
  .have a:kZ t.tx≠0:=hq;rw[if_pos a,if_pos a]
 .have c:gy t.tx≠0:=ho;rw[if_pos c,if_pos c];cases nameAt r.tail <;> rfl
theorem Zj (g:Nat) (s:ByteArray) (i:Nat) (w:World) (a:aP w g s i) (f:TM w g) (t u:Tok) (r:List Tok) (b:wordsOf s.data.toList i=t :: u :: r) (c:u.tx = [40]) (k:¬ (gy t.tx=0/\kZ t.tx=0/\t.tx≠yJ)) (d:∀ h,h.length<=r.length->fE 255 .or s h) :
  Calls Tryz.prog 324 #[ba (some ⟨g,0,none⟩),a8 (tb t.tx)] w λ e w'=>Y4 w g s (sU s.data.toList.length t.tx r) e w':=by
 by_cases ho:gy t.tx=0
 .by_cases hq:kZ t.tx=0
  .exact Ze g s i w a f t u r b c (Decidable.not_not.1 (λ j=>k ⟨ho,hq,j⟩)) d
  .exact ace g s i w a f t u r b c ho hq d
 .exact VA g s i w a f t u r b c ho d
theorem kM {s:ByteArray} {i:Nat} {t:Tok} (A:dG s.data.toList i=some t):∃ (c0:UInt8) (o:List UInt8) (v:ByteArray) (c:0<v.size),s.data.toList.getD t.at_ 0=c0/\t.tx=c0 :: o/\c0≠32/\tb t.tx=v/\v[0]=c0/\v.toList.isEmpty=false /\
  Hid (∀ w',He 284 #[.int .u8 (v[0].toNat:Nat)] w' (bc (fO c0)))/\Hid (∀ w',He 55 #[.int .u8 (v[0].toNat:Nat)] w' (bc (pX c0))) /\
  Hid (∀ w',He 56 #[a8 v] w' (bc (bH.contains t.tx))) /\
  kY t.tx=((fO c0 || decide (c0=64) || decide (c0=35) || decide (c0=39) || decide (c0=123)) || decide (t.tx=qL) || decide (t.tx=ny))/\nameB t.tx=(pX c0 && !bH.contains t.tx)/\(∀ l:List UInt8,t.tx=l->(v.toList == (tb l).toList)=true)/\(∀ l:List UInt8,t.tx≠l->(v.toList == (tb l).toList)=false):=by
 obtain⟨o,b,j⟩:=sN A;obtain⟨c0,k⟩:=af (s.data.toList.getD t.at_ 0);rw[k] at b j;obtain⟨v,f⟩:=af (tb t.tx);have c:0<v.size:=by rw[<- f,kS,b];simp
 have d:v[0]=c0:=by
  subst f;have g:(tb t.tx).data.toList[0]?=some c0:=by rw[jB,b];rfl
  have n:(tb t.tx).data.toList[0]?=some (tb t.tx)[0]:=by
   rw[bk (by rw[aT];exact c)];rfl
  rw[n] at g;injection g
 have p:v.toList.isEmpty=false:=by
  cases h:v.toList.isEmpty with
  | false=>rfl
  | true =>
   have g:v.toList = []:=List.isEmpty_iff.1 h;have n:(v.toList == (⟨#[]⟩:ByteArray).toList)=true:=by rw[g];simp
   have z:(v.toList == (⟨#[]⟩:ByteArray).toList)=false:=dR (λ e=>by rw[e] at c;exact absurd c (by decide));rw[z] at n;cases n
 have w:=qh (show ∀ w',Calls Tryz.prog 284 #[.int .u8 (v[0].toNat:Nat)] w' λ e a=>e = .returned (bc (fO c0))/\w'=a from λ w'=>by rw[d];exact jv c0 w');have u:=qh (show ∀ w',Calls Tryz.prog 55 #[.int .u8 (v[0].toNat:Nat)] w' λ e a=>e = .returned (bc (pX c0))/\w'=a from λ w'=>by rw[d];exact oz c0 w');have x:=qh (show ∀ w',Calls Tryz.prog 56 #[a8 v] w' λ e a=>e = .returned (bc (bH.contains t.tx))/\w'=a from λ w'=>by
  have g:=mY v w'
  rwa [show v.data.toList=t.tx from by rw[<- f,jB]] at g)
 have r:kY t.tx=((fO c0 || decide (c0=64) || decide (c0=35) || decide (c0=39) || decide (c0=123)) || decide (t.tx=qL) || decide (t.tx=ny)):=by
  unfold kY;congr 1;congr 1;rw[b]
 have q:nameB t.tx=(pX c0 && !bH.contains t.tx):=by
  unfold nameB;congr 1;rw[b]
 have m:∀ l:List UInt8,t.tx=l->(v.toList == (tb l).toList)=true:=λ l h=>kz (by rw[<- f,h]);have y:∀ l:List UInt8,t.tx≠l->(v.toList == (tb l).toList)=false:=λ l h=>dR (λ e=>h (J6 (by rw[f,e])));exact⟨c0,o,v,c,k,b,j,f,d,p,w,u,x,r,q,m,y⟩
theorem OJ (g:Nat) (s:ByteArray) (i:Nat) (w:World) (a:aP w g s i) (c:wordsOf s.data.toList i = []) :
  Calls Tryz.prog 319 #[ba (some ⟨g,0,none⟩)] w λ e w'=>vM w g s (Pz s.data.toList.length .bK [] []) e w':=by
 have p:=qh a;have r:=a.b.lt;have d:=qh (λ W (a:aP W g s i)=>gV g s i W a);have l:Pz s.data.toList.length .bK [] [] = .err (aN s i):=by
  rw[iJ];dsimp only[iI];have h:=mJ s i;rw[c] at h;rw[<- h];rfl
 have b:aK s i = []:=by
  unfold aK;cases ht:dG s.data.toList i with
  | none=>rfl
  | some t=>rw[gZ,ht] at c;cases c
 have j:=qh b;rw[l];clear l b a c;go_enter Tryz.func319,Tryz.ntmps319;go_upto_region 1 with (fail);obtain⟨W,k,f,o,n,q,-⟩:=fA g w;have m:=qh (show aP W g s i by rw[k];exact p.o.alloc _);have x:=qh o;rw[<- k];clear k o;have u:W.cell? ⟨g,2,none⟩=some (a8 ⟨#[]⟩):=by have h:=m.o.b.cell 2;rw[j.o] at h;exact h
 go_wp2_with (go_at_call 256;(with_reducible refine (d.o _ m.o).mono ?_);rintro e v ⟨rfl,rfl⟩);exact⟨rfl,rfl,f⟩
theorem Ik (g:Nat) (s:ByteArray) (i:Nat) (w:World) (b:aP w g s i) (C:TM w g) (t:Tok) (r:List Tok) (u:wordsOf s.data.toList i=t :: r) (D:t.touch=true) :
  Calls Tryz.prog 319 #[ba (some ⟨g,0,none⟩)] w λ e w'=>vM w g s (Pz s.data.toList.length .bK [] (t :: r)) e w':=by
 have H:=qh b;have I:=qh C;have Q:=b.b.lt;have M:=b.s;have a:=iw u;obtain⟨x,p,A⟩:=jU a.1;obtain⟨R,S,v,O,l,n,k,f,m,L,X,T,Z,z,o,d,K⟩:=kM a.1;have B:=fP a.1;rw[aT] at B;have U:=qh (show r=wordsOf s.data.toList (aN s i+(aK s i).length) by rw[x,p];exact a.2);have J:=qh (show t.at_=aN s i from x.symm);have sG:=qh a.1;have vF:=qh u;have HV:=qh f;have P:=qh (show tb (aK s i)=v by rw[p];exact f);have F:=qh A;have j:=qh (λ W (b:aP W g s i)=>gV g s i W b);rw[QU D,J.o];rw[D] at F;clear m z o d K a x p A n k l B f u b C;go_enter Tryz.func319,Tryz.ntmps319;go_upto_region 1 with (fail);obtain⟨W,y,c,G,E,N,-⟩:=fA g w;have q:=qh (show aP W g s i by rw[y];exact H.o.alloc _);have xU:=qh (I.o.kp c);have mi:=qh G;rw[<- y];clear y G;have V:W.cell? ⟨g,2,none⟩=some (a8 v):=by have h:=q.o.b.cell 2;rw[show tb (aK s i)=v from P.o] at h;exact h
 have d3:W.cell? ⟨g,3,none⟩=some (bc true):=by have h:=q.o.b.cell 3;rw[F.o] at h;exact h
 go_wp2_with (go_at_call 256;(with_reducible refine (j.o _ q.o).mono ?_);rintro e Y ⟨rfl,rfl⟩);exact⟨rfl,rfl,c⟩
theorem Il (g:Nat) (s:ByteArray) (i:Nat) (w:World) (A:aP w g s i) (hm:TM w g) (t:Tok) (r:List Tok) (hL:wordsOf s.data.toList i=t :: r) (ht:t.touch=false) (x:kY t.tx=true) :
  Calls Tryz.prog 319 #[ba (some ⟨g,0,none⟩)] w λ e w'=>vM w g s (Pz s.data.toList.length .bK [] (t :: r)) e w':=by
 have lL:=qh A;have HM:=qh hm;have ac:=A.b.lt;have am:=A.s;have b:=iw hL;obtain⟨X,I,eh⟩:=jU b.1;obtain⟨C,tl,v,an,G,Z,T,Q,a,ae,o,vH,Ig,D,aa,c,jd⟩:=kM b.1;have zT:=fP b.1;rw[aT] at zT;have OH:=qh (show r=wordsOf s.data.toList (aN s i+(aK s i).length) by rw[X,I];exact b.2);have Qy:=qh (show t.at_=aN s i from X.symm);have sG:=qh b.1;have vF:=qh hL;have HV:=qh Q;have Dv:=qh (show tb (aK s i)=v by rw[I];exact Q);have jD:=qh eh;have al:=qh (λ W (A:aP W g s i)=>gV g s i W A);rw[QV ht x];rw[ht] at jD;obtain⟨R,M⟩:=af (Gv (if qZ t.tx then lU t.tx else t.tx) t.at_ r);have ab:=qh M;rw[M];rw[D] at x;simp only[Bool.or_eq_true,decide_eq_true_iff] at x;clear M;by_cases h0:fO C=true
 case' pos =>
  rw[h0] at o
 case' neg =>
  by_cases h64:C=64
  case' pos =>
   rw[bd.2 h0] at o;have d:((v[0].toNat:Int) == 64)=true:=by rw[a,h64];rfl
   have f:(v[0].toNat == 64)=true:=by rw[a,h64];rfl
  case' neg =>
   by_cases h35:C=35
   case' pos =>
    rw[bd.2 h0] at o;obtain⟨d,f⟩:=eU (z:=64) (n:=64) a h64 rfl rfl;have l:((v[0].toNat:Int) == 35)=true:=by rw[a,h35];rfl
    have m:(v[0].toNat == 35)=true:=by rw[a,h35];rfl
   case' neg =>
    by_cases qo:C=39
    case' pos =>
     rw[bd.2 h0] at o;obtain⟨d,f⟩:=eU (z:=64) (n:=64) a h64 rfl rfl;obtain⟨l,m⟩:=eU (z:=35) (n:=35) a h35 rfl rfl;have p:((v[0].toNat:Int) == 39)=true:=by rw[a,qo];rfl
     have q:(v[0].toNat == 39)=true:=by rw[a,qo];rfl
    case' neg =>
     by_cases iq:C=123
     case' pos =>
      rw[bd.2 h0] at o;obtain⟨d,f⟩:=eU (z:=64) (n:=64) a h64 rfl rfl;obtain⟨l,m⟩:=eU (z:=35) (n:=35) a h35 rfl rfl;obtain⟨p,q⟩:=eU (z:=39) (n:=39) a qo rfl rfl;have QX:((v[0].toNat:Int) == 123)=true:=by rw[a,iq];rfl
      have QY:(v[0].toNat == 123)=true:=by rw[a,iq];rfl
     case' neg =>
      by_cases ht1:t.tx=qL
      case' pos =>
       rw[bd.2 h0] at o;obtain⟨d,f⟩:=eU (z:=64) (n:=64) a h64 rfl rfl;obtain⟨l,m⟩:=eU (z:=35) (n:=35) a h35 rfl rfl;obtain⟨p,q⟩:=eU (z:=39) (n:=39) a qo rfl rfl;obtain⟨QX,QY⟩:=eU (z:=123) (n:=123) a iq rfl rfl;have st:(v.toList == [116,114,117,101])=true:=by have h:=c [116,114,117,101] ht1;simpa [tb] using h
      case' neg =>
       have V:t.tx=ny:=by simp only[h0,h64,h35,qo,iq,ht1,false_or] at x;first | exact x | (rcases x with h | h <;> first | exact absurd h (by decide) | exact h)
       rw[bd.2 h0] at o;obtain⟨d,f⟩:=eU (z:=64) (n:=64) a h64 rfl rfl;obtain⟨l,m⟩:=eU (z:=35) (n:=35) a h35 rfl rfl;obtain⟨p,q⟩:=eU (z:=39) (n:=39) a qo rfl rfl;obtain⟨QX,QY⟩:=eU (z:=123) (n:=123) a iq rfl rfl;have st:(v.toList == [116,114,117,101])=false:=by have h:=jd [116,114,117,101] ht1;simpa [tb] using h
       have sf:(v.toList == [102,97,108,115,101])=true:=by have h:=c [102,97,108,115,101] V;simpa [tb] using h
 all_goals
  clear a D aa c jd b X I eh Z T G zT Q A hm;go_enter Tryz.func319,Tryz.ntmps319;go_upto_region 1 with (fail);obtain⟨W,K,u,BR,ad,J,-⟩:=fA g w;have N:=qh (show aP W g s i by rw[K];exact lL.o.alloc _);have xU:=qh (HM.o.kp u);have mi:=qh BR;rw[<- K];clear K BR;have d2:W.cell? ⟨g,2,none⟩=some (a8 v):=by have h:=N.o.b.cell 2;rw[show tb (aK s i)=v from Dv.o] at h;exact h
  have d3:W.cell? ⟨g,3,none⟩=some (bc false):=by have h:=N.o.b.cell 3;rw[jD.o] at h;exact h
  go_wp2_with (go_at_call 284;(with_reducible refine (o.o _).mono ?_);rintro e w1 ⟨rfl,rfl⟩);refine (Kr g s i W N.o xU.o t r vF.o).mono ?_;rw[ab.o];cases R with
  | err k =>
   rintro e w1 ⟨rfl,j⟩;go_wp2_with fail;exact⟨rfl,rfl,u.trans j⟩
  | ok es l1 =>
   rintro e w1 ⟨y,i1,ak,rfl,rfl,rfl,B,U,j⟩;have D8:=qh B;obtain⟨Y,H,O,S,wR,wS,E⟩:=B;rename_i A1 F L P Ou;clear wR wS E Y H O S;have oK:(az y A1 F L P).toArray = (BC y A1 F L y.ar.length P):=rfl;rw[oK];clear oK;have B1:=mi.o.kp j (by omega);obtain⟨dM,jY,eQ,jZ,gW,oH,gX,oI,jM,yw,jO,yx,jP,yz,jQ,yA⟩:=ag.z8 B1;go_wp2_with fail;refine bodyPost_ret (v:=.agg (BC y A1 F L y.ar.length P)) (by simp[results,Tryz.results319,go_sem,dM,eQ,gW,gX,jM,jO,jP,jQ]) rfl ?_;exact sO D8.o J ac U (u.trans j)
end Go.Proofs.YtcnagconagpkcaaGreatDoor
