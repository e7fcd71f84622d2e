/- Lemmas. -/
import Derived.Test.YtcnagconagpkcaaGreatDoorZ27
import Derived.Test.YtcnagconagpkcaaGreatDoorCards
import Derived.Test.YtcnagconagpkcaaGreatDoorTie
import Derived.OpenShut
import Derived.Deep.DeepHandedRow
import Derived.Deep.DeepLaidRun
import Derived.Lib.LaidTab
import Derived.Stop.LaidErr
import Derived.PinnedBridge
import Derived.Shelf.Vars
set_option maxHeartbeats 16000000
set_option maxRecDepth 100000
open Go.Value renaming int->a4, string->a6, slice->a7, pointer->a8, bool->a9
open Go.IntKind renaming i64->a5
open Go.Ending renaming returned->ba
open And renaming intro->bb
open Nat renaming le_refl->bc, le_trans->bd, zero_le->bi
open List renaming mem_singleton->be, mem_cons->bf, mem_cons_self->bh, take_zero->bj, flatMap_nil->bk, append_nil->bl, getElem_of_mem->bm, length_append->bn, mem_append_left->bo, mem_append->bq, append_assoc->br, mem_cons_of_mem->bt, take_length->bv, nil_append->bw
open Go.Instr renaming lookup->bg
open Decidable renaming byContradiction->bp
namespace Go.Proofs.YtcnagconagpkcaaGreatDoor
open Go.RowKit
attribute [local go_sem ↓] Go.wp_at_zero Go.wp_at_succ
set_option maxHeartbeats 4000000
set_option maxRecDepth 100000
structure I4 (w0 cur:World) (g gb gc:Nat) (bs:List (Nat × Array Value)) (n:Nat) (l:List jE):Prop where
 df:oM w0 cur g gb gc l
 bx:∀ p∈bs,ag cur p.1 92 p.2
 len:l.length<=n
theorem I4.later {w0 a:World} {g c d:Nat} {b:List (Nat × Array Value)} {n:Nat} {l:List jE} {w':World} (h:I4 w0 a g c d b n l) (e:EG a w'):I4 w0 w' g c d b n l:=
 ⟨h.df.keep e,λ p q=>(h.bx p q).below e (h.bx p q).lt,h.len⟩
theorem I4.drew {w0 a:World} {g c d:Nat} {b:List (Nat × Array Value)} {n:Nat} {l:List jE} (h:I4 w0 a g c d b n l):I4 w0 a.drew g c d b n l:=h.later (Below.refl _ _).drew
theorem I4.tell {w0 a:World} {g d f:Nat} {c:List (Nat × Array Value)} {n:Nat} {l:List jE} (h:I4 w0 a g d f c n l) (o:n<=90000) (b:Bool) (k:Int) (s:ByteArray) :
  Calls Tryz.prog 46 #[a8 (some ⟨g,0,none⟩),a9 b,a4 a5 k,a6 s] a λ e w'=>e = ba (.tuple #[])/\I4 w0 w' g d f c (n+1) (l ++ x8 b k s)/\rO w0 a w':=
 (Au h.df (by have:=h.len;omega) b k s).mono λ e w' ⟨j,m,i⟩=>⟨j,⟨m,λ p q=>i.blk _ _ _ (h.bx p q) (by decide) (by decide),by have:=h.len;have:=Ej b k s;simp only[bn];omega⟩,i⟩
theorem I4.two {w0 a:World} {g d e:Nat} {c:List (Nat × Array Value)} {n:Nat} {l:List jE} {cs:Array Value} (h:I4 w0 a g d e c n l) (_:EG a a):I4 w0 (a.alloc (.cells cs 92 (0,0))).drew g d e (c ++ [(a.heap.size,cs)]) n l:=by
 have q:=(h.later (aB a (.cells cs 92 (0,0)))).drew;refine⟨q.df,λ p b=>?_,q.len⟩;rcases bq.1 b with b | b
 .exact q.bx p b
 .rw[be] at b;subst b;exact ag.new a _ _
theorem Wp {a:List aW} {e m:aW} (h:eX a e.nm=some m):xe a e=x8 (!bI e m) 8 e.nm:=rP _ _ (by
 rw[h];constructor
 .intro q;cases b:bI e m
  .rfl
  .exact absurd (by rw[dD.1 b]) q
 .intro q r;rw[Option.some.inj r,sZ] at q;cases q) _ _
theorem TY {w:World} {B0 r u e p:Nat} {x:ku} {f:aG} {N:List ah} {K:aV} (h:aJ w B0 r u e p x f N K) (s:ByteArray) (t:s.size<=maxLen):∃ g i j k d,(∀ w',EG w w'->(bg 113 (.map (some e)) (a6 s) true).run Tryz.prog w' = .ok (.tuple #[.agg #[a6 g,a7 i j k],a9 d]) w')/\((d=false/\eX f.lists s=none)\/(d=true/\∃ m,eX f.lists s=some m/\dW w B0 m [a6 g,a7 i j k])):=by
 obtain⟨y,o,v⟩:=h.ls;have b:=v s;have n:=λ w' (a:EG w w')=>(o.below a o.lt).look Tryz.underlying113 (SI w') t;cases hq:eX f.lists s with
 | none =>
  rw[hq] at b;exact⟨_,_,_,_,false,λ w' a=>by have:=n w' a;rw[b] at this;exact this,.inl ⟨rfl,rfl⟩⟩
 | some l =>
  rw[hq] at b;obtain⟨A,c,b,q⟩:=b;exact⟨_,_,_,_,true,λ w' a=>by have:=n w' a;rw[b] at this;exact this,.inr ⟨rfl,l,rfl,q⟩⟩
theorem RJ {w0:World} {B0 I m1 m2 m3:Nat} {x:ku} {f:aG} {N:List ah} {K:aV} (hA:aJ w0 B0 I m1 m2 m3 x f N K) {C0 H n1 n2 n3:Nat} {y:ku} {f':aG} {M:List ah} {K':aV} (hB:aJ w0 C0 H n1 n2 n3 y f' M K') (ax:f.lists.length<=60) (ay:f'.lists.length<=60) {w:World} {g:Nat} {l:List jE} (h:oM w0 w g I H l) (hl:l.length<=10000) :
  Calls Tryz.prog 45 #[a8 (some ⟨g,0,none⟩)] w λ e w'=>e = ba (.tuple #[])/\oM w0 w' g I H (l ++ f.lists.flatMap (xe f'.lists) ++ f'.lists.flatMap (Ar f.lists))/\rO w0 w w':=by
 obtain⟨v,Wi⟩:=af (f.lists);obtain⟨u,QJ⟩:=af (f'.lists);obtain⟨AA,am⟩:=af (x.AS);obtain⟨AB,ap⟩:=af (y.AS);have HA:=qh hA;have HB:=qh hB;have vF:=qh (show (au dW 2 w0 B0 AA v/\v.length<=x.cs)/\au dW 2 w0 C0 AB u/\u.length<=y.cs from ⟨⟨am▸Wi▸hA.form.ls,Wi▸hA.form.li⟩,ap▸QJ▸hB.form.ls,QJ▸hB.form.li⟩);have aE:=vF.o.1.2;have aD:=vF.o.2.2;have HC:=qh (show ∀ a,EG w0 a->(a.cell? ⟨I,3,none⟩=some (a7 AA v.length x.cs)/\a.cell? ⟨I,7,none⟩=some (.map (some m2)))/\a.cell? ⟨H,3,none⟩=some (a7 AB u.length y.cs)/\a.cell? ⟨H,7,none⟩=some (.map (some n2)) from λ a E=>by
  rw[<- Wi,<- QJ,<- am,<- ap];exact⟨⟨(hA.keep E).blk.cell 3,(hA.keep E).blk.cell 7⟩,(hB.keep E).blk.cell 3,(hB.keep E).blk.cell 7⟩)
 have aw:=qh (show (∀ a,EG w0 a->∀ s,s.size<=maxLen->∃ C D B F A,(∀ w',EG a w'->(bg 113 (.map (some n2)) (a6 s) true).run Tryz.prog w' = .ok (.tuple #[.agg #[a6 C,a7 D B F],a9 A]) w')/\((A=false/\eX u s=none)\/(A=true/\∃ m,eX u s=some m/\dW a C0 m [a6 C,a7 D B F])))/\(∀ a,EG w0 a->∀ s,s.size<=maxLen->∃ C D B F A,(∀ w',EG a w'->(bg 113 (.map (some m2)) (a6 s) true).run Tryz.prog w' = .ok (.tuple #[.agg #[a6 C,a7 D B F],a9 A]) w')/\((A=false/\eX v s=none)\/(A=true/\∃ m,eX v s=some m/\dW a B0 m [a6 C,a7 D B F]))) from by
  rw[<- Wi,<- QJ];exact⟨λ a E s V=>TY (hB.keep E) s V,λ a E s V=>TY (hA.keep E) s V⟩)
 rw[Wi,QJ];rw[Wi] at ax;rw[QJ] at ay;obtain⟨q0,q1⟩:=h.q01;obtain⟨⟨c3,-⟩,-,-⟩:=HC.o _ h.bel;have H0:=qh h;clear hA hB h Wi QJ am ap;go_enter Tryz.func45,Tryz.ntmps45;go_wp2_with fail;clear q0 q1 c3;go_loopw [19] (λ i wr=>∃ k:Nat,i = a4 a5 k/\k<=v.length/\oM w0 wr g I H (l ++ (v.take k).flatMap (xe u))/\(l ++ (v.take k).flatMap (xe u)).length<=10000+k/\rO w0 w wr) (λ i _=>61 - (intOf i).toNat)
 case atStart=>exact⟨0,rfl,bi _,by rw[bj,bk,bl];exact H0.o,by rw[bj,bk,bl];omega,rO.of (Below.refl _ _) H0.o.bel.size⟩
 case round =>
  obtain⟨k,rfl,hk,c,G,S⟩:=hrel;have X:=qh S;by_cases hlt:k<v.length
  .have d:=c.bel;obtain⟨ad,ci,rfl,-,Q,j⟩:=au.at_ vF.o.1.1 hlt;have t:=qh (show l ++ (v.take (k+1)).flatMap (xe u)=(l ++ (v.take k).flatMap (xe u)) ++ xe u v[k] by rw[xN hlt];simp only[br]);obtain⟨L2,ac⟩:=af (l ++ (v.take k).flatMap (xe u));rw[ac] at t c G;obtain⟨e,he⟩:=af (v[k]);rw[he] at t Q;have tq:=qh Q;obtain⟨R,O,rfl,-,-,ak⟩:=Q;have u0:wr.cell? (ad.add (k*2))=some (a6 e.nm):=Below.cell_of d (j 0 _ rfl);have u1:wr.cell? ⟨(ad.add (k*2)).block,(ad.add (k*2)).off+1,none⟩=some (a7 R e.os.length O):=Below.cell_of d (j 1 _ rfl);obtain⟨W,hW⟩:=aH (wr.alloc (.cells #[a6 e.nm,a7 R e.os.length O] 92 (0,0)));have J:EG wr W:=hW▸aB wr _;have Y:I4 w0 W g I H [(wr.heap.size,#[a6 e.nm,a7 R e.os.length O])] (10000+k) (L2):=⟨c.keep J,λ p q=>(by rw[be] at q;subst q;exact hW▸ag.new wr _ _),G⟩;obtain⟨C,D,B,F,A,ab,aa⟩:=aw.o.1 _ d e.nm ak;have B1:=Y.bx _ (be.2 rfl);have v0:W.cell? ⟨wr.heap.size,0,none⟩=some (a6 e.nm):=B1.cell 0;obtain⟨q0,q1⟩:=Y.df.q01;obtain⟨⟨c3,-⟩,-,c7⟩:=HC.o _ Y.df.bel;have o:=Below.refl W.heap.size W;have T:=qh (λ w' (Z:EG W w')=>bb (Below.cell_of Z q1) (bb (Below.cell_of Z c7) (bb (Below.cell_of Z v0) (bb (ab w' (J.trans (Z.mono J.size))) Z))));have av:=qh aa;have z:=qh Y;have ao:=(d.trans (J.mono d.size)).size;have U:=qh (rO.of J d.size);have aX:=qh hlt;obtain⟨⟨d3,-⟩,-,-⟩:=HC.o _ d;clear Y aa ab c ac S B1;go_upto_region 3 with (fail);rw[<- hW];clear hW u0 u1 d3 q0 q1 c3 c7 v0 j he;go_cut [4,5] from 23 to 35 (λ v4 v5 wd=>v4 = a8 (some ⟨W.heap.size,0,none⟩)/\v5 = a9 A/\Hid (I4 w0 wd g I H [(wr.heap.size,#[a6 e.nm,a7 R e.os.length O]),(W.heap.size,#[a6 C,a7 D B F])] (10000+k) (L2))/\Hid (EG W wd))
   case first =>
    go_region_held3 (λ w'=>w'.cell? ⟨g,1,none⟩=some (a8 (some ⟨H,0,none⟩))/\w'.cell? ⟨H,7,none⟩=some (.map (some n2))/\w'.cell? ⟨wr.heap.size,0,none⟩=some (a6 e.nm)/\(bg 113 (.map (some n2)) (a6 e.nm) true).run Tryz.prog w' = .ok (.tuple #[.agg #[a6 C,a7 D B F],a9 A]) w'/\EG W w')
     (first | exact T.o _ o.drew | exact T.o _ (o.alloc (bc _) _) | exact T.o _ (o.alloc (bc _) _).drew | exact T.o _ o) (fail)
    all_goals
     (try go_wp2_with fail)
     go_meet
     exact⟨rfl,rfl,qh (z.o.two o),qh (o.alloc (bc _) _).drew⟩
   case rest =>
    obtain⟨rfl,rfl,z,P⟩:=hcut;obtain⟨r,HR,an,ae⟩:∃ r,Hid (xe u e=x8 r 8 e.nm)/\Hid (A=false->r=true)/\Hid (A=true->∃ b,r=!b/\∀ a,EG wr a->CS 64 #[.agg #[a6 e.nm,a7 R e.os.length O],.agg #[a6 C,a7 D B F]] a (a9 b)):=by
     rcases av.o with ⟨h1,h2⟩ | ⟨h1,m,h2,h3⟩
     .exact⟨true,qh (rP _ _ (by rw[h2];simp) _ _),qh (λ _=>rfl),qh (λ q=>(by rw[h1] at q;cases q))⟩
     .refine⟨!bI e m,qh (Wp h2),qh (λ q=>(by rw[h1] at q;cases q)),qh (λ _=>⟨bI e m,rfl,λ a E=>?_⟩)⟩;have al:=d.trans (E.mono d.size);exact Lj (tq.o.keep (al.mono HA.o.le)) (h3.keep (E.mono (bd HB.o.le d.size))) (bd HA.o.le al.size) (bd HB.o.le al.size)
    have HF:=qh (show ∀ (a:World) (n:Nat) (l:List jE),I4 w0 a g I H [(wr.heap.size,#[a6 e.nm,a7 R e.os.length O]),(W.heap.size,#[a6 C,a7 D B F])] (n) (l)->a.cell? ⟨wr.heap.size,0,none⟩=some (a6 e.nm)/\a.cell? ⟨wr.heap.size,1,none⟩=some (a7 R e.os.length O)/\a.cell? ⟨W.heap.size,0,none⟩=some (a6 C)/\a.cell? ⟨W.heap.size,1,none⟩=some (a7 D B F) from λ a n l q=>⟨(q.bx _ (bh ..)).cell 0,(q.bx _ (bh ..)).cell 1,(q.bx _ (bt _ (bh ..))).cell 0,(q.bx _ (bt _ (bh ..))).cell 1⟩);have U:=qh (U.o.trans (rO.of P.o ao));have ar:=qh (J.trans (P.o.mono J.size));obtain⟨s,V⟩:=af (e.nm);rw[V] at HF HR ae z;simp only[V];rw[HR.o] at t;clear T av P HR V;obtain⟨x0,x1,x2,x3⟩:=HF.o _ _ _ z.o;have Q4:=qh (Below.refl wc.heap.size wc);go_upto_region 4 with (fail);cases A
    case' true =>
     obtain⟨b,E,KS⟩:=ae.o rfl;subst E;have KS:=qh KS;clear an ae;go_region_held3 (λ w'=>w'.cell? ⟨wr.heap.size,0,none⟩=some (a6 s)/\w'.cell? ⟨wr.heap.size,1,none⟩=some (a7 R e.os.length O)/\w'.cell? ⟨W.heap.size,0,none⟩=some (a6 C)/\w'.cell? ⟨W.heap.size,1,none⟩=some (a7 D B F))
      (first | exact HF.o _ _ _ z.o.drew | exact HF.o _ _ _ z.o | exact aA)
      (first
       | (go_at_call 64;(with_reducible refine (KS.o _ (ar.o.trans (Q4.o.drew.mono ar.o.size))).mono ?_);rintro e8 w8 ⟨rfl,h8⟩;have U:=qh ((U.o.trans (rO.of Q4.o.drew z.o.df.bel.size)).trans (rO.of h8 z.o.drew.df.bel.size));have z:=qh (z.o.drew.later h8);clear h8)
       | (go_at_call 46;(with_reducible refine (z.o.tell (by omega) _ 8 s).mono ?_);rintro e9 aq ⟨rfl,h9,f9⟩;have aA:=HF.o _ _ _ h9;have OU:=qh (bb h9 f9);clear h9 f9))
    case' false =>
     have E:=an.o rfl;subst E;clear an ae;go_region_with (go_at_call 46;(with_reducible refine (z.o.drew.tell (by omega) _ 8 s).mono ?_);rintro e9 aq ⟨rfl,h9,f9⟩;have U:=qh (U.o.trans (rO.of Q4.o.drew z.o.df.bel.size));have OU:=qh (bb h9 f9);clear h9 f9)
    all_goals
     (try go_wp2_with fail)
     go_roundw
     case rel=>exact⟨k+1,by go_num,aX.o,by rw[t.o];exact OU.o.1.df,by rw[t.o];exact bd OU.o.1.len (by omega),X.o.trans (U.o.trans OU.o.2)⟩
     case measure =>
      have:=aX.o;simp[intOf];omega
  .have e:k=v.length:=by omega
   subst e;rw[bv] at c G;obtain⟨L,hL⟩:=af (l ++ v.flatMap (xe u));rw[hL] at c G;have HE:=qh hL;have H1:=qh c;obtain⟨q0,q1⟩:=c.q01;obtain⟨-,c3,-⟩:=HC.o _ c.bel;clear c hL S;go_wp2_with fail;clear q0 q1 c3;go_loopw [58] (λ i wr=>∃ k:Nat,i = a4 a5 k/\k<=u.length/\oM w0 wr g I H (L ++ (u.take k).flatMap (Ar v))/\(L ++ (u.take k).flatMap (Ar v)).length<=20000+k/\rO w0 w wr) (λ i _=>61 - (intOf i).toNat)
   case atStart=>exact⟨0,rfl,bi _,by rw[bj,bk,bl];exact H1.o,by rw[bj,bk,bl];omega,X.o⟩
   case round =>
    obtain⟨k,rfl,hk,c,G,S⟩:=hrel;have X:=qh S;by_cases hlt:k<u.length
    .have d:=c.bel;obtain⟨ad,ci,rfl,-,Q,j⟩:=au.at_ vF.o.2.1 hlt;have t:=qh (show L ++ (u.take (k+1)).flatMap (Ar v)=(L ++ (u.take k).flatMap (Ar v)) ++ Ar v u[k] by rw[xN hlt];simp only[br]);obtain⟨L2,ac⟩:=af (L ++ (u.take k).flatMap (Ar v));rw[ac] at t c G;obtain⟨e,he⟩:=af (u[k]);rw[he] at t Q;obtain⟨R,O,rfl,-,-,ak⟩:=Q;have u0:wr.cell? (ad.add (k*2))=some (a6 e.nm):=Below.cell_of d (j 0 _ rfl);have u1:wr.cell? ⟨(ad.add (k*2)).block,(ad.add (k*2)).off+1,none⟩=some (a7 R e.os.length O):=Below.cell_of d (j 1 _ rfl);obtain⟨W,hW⟩:=aH (wr.alloc (.cells #[a6 e.nm,a7 R e.os.length O] 92 (0,0)));have J:EG wr W:=hW▸aB wr _;have Y:I4 w0 W g I H [(wr.heap.size,#[a6 e.nm,a7 R e.os.length O])] (20000+k) (L2):=⟨c.keep J,λ p q=>(by rw[be] at q;subst q;exact hW▸ag.new wr _ _),G⟩;obtain⟨C,D,B,F,A,ab,aa⟩:=aw.o.2 _ d e.nm ak;have B1:=Y.bx _ (be.2 rfl);have v0:W.cell? ⟨wr.heap.size,0,none⟩=some (a6 e.nm):=B1.cell 0;obtain⟨q0,q1⟩:=Y.df.q01;obtain⟨⟨-,c7⟩,-,-⟩:=HC.o _ Y.df.bel;have o:=Below.refl W.heap.size W;have T:=qh (λ w' (Z:EG W w')=>bb (Below.cell_of Z q0) (bb (Below.cell_of Z c7) (bb (Below.cell_of Z v0) (bb (ab w' (J.trans (Z.mono J.size))) Z))));have hr:Ar v e=x8 (!A) 8 e.nm:=rP _ _ (by
      rcases aa with ⟨rfl,h2⟩ | ⟨rfl,m,h2,-⟩
      .rw[h2];simp
      .rw[h2];simp) _ _
     have z:=qh Y;have ao:=(d.trans (J.mono d.size)).size;have U:=qh (rO.of J d.size);have aX:=qh hlt;obtain⟨-,d3,-⟩:=HC.o _ d;rw[hr] at t;clear Y aa ab c ac S B1 hr;go_upto_region 9 with (fail);rw[<- hW];clear hW u0 u1 d3 q0 q1 c7 v0 j he;obtain⟨s,V⟩:=af (e.nm);rw[V] at T t z;simp only[V];clear V;go_cut [8,9] from 62 to 74 (λ v4 v5 wd=>v4 = a8 (some ⟨W.heap.size,0,none⟩)/\v5 = a9 A/\Hid (I4 w0 wd g I H [(wr.heap.size,#[a6 s,a7 R e.os.length O]),(W.heap.size,#[a6 C,a7 D B F])] (20000+k) (L2))/\Hid (EG W wd))
     case first =>
      go_region_held3 (λ w'=>w'.cell? ⟨g,0,none⟩=some (a8 (some ⟨I,0,none⟩))/\w'.cell? ⟨I,7,none⟩=some (.map (some m2))/\w'.cell? ⟨wr.heap.size,0,none⟩=some (a6 s)/\(bg 113 (.map (some m2)) (a6 s) true).run Tryz.prog w' = .ok (.tuple #[.agg #[a6 C,a7 D B F],a9 A]) w'/\EG W w')
       (first | exact T.o _ o.drew | exact T.o _ (o.alloc (bc _) _) | exact T.o _ (o.alloc (bc _) _).drew | exact T.o _ o) (fail)
      all_goals
       (try go_wp2_with fail)
       go_meet
       exact⟨rfl,rfl,qh (z.o.two o),qh (o.alloc (bc _) _).drew⟩
     case rest =>
      obtain⟨rfl,rfl,z,P⟩:=hcut;have U:=qh (U.o.trans (rO.of P.o ao));have x0:wc.cell? ⟨wr.heap.size,0,none⟩=some (a6 s):=(z.o.bx _ (bh ..)).cell 0;clear T P;cases A
      all_goals
       go_wp2_with (go_at_call 46;(with_reducible refine (z.o.tell (by omega) _ 8 s).mono ?_);rintro e9 aq ⟨rfl,h9,f9⟩;have OU:=qh (bb h9 f9);clear h9 f9);go_roundw
       case rel=>exact⟨k+1,by go_num,aX.o,by rw[t.o];exact OU.o.1.df,by rw[t.o];exact bd OU.o.1.len (by omega),X.o.trans (U.o.trans OU.o.2)⟩
       case measure =>
        have:=aX.o;simp[intOf];omega
    .have e:k=u.length:=by omega
     subst e;rw[bv] at c;have HZ:=qh c;clear c;go_wp2_with fail;go_end0;exact⟨rfl,by rw[HE.o];exact HZ.o,X.o⟩
end Go.Proofs.YtcnagconagpkcaaGreatDoor
namespace Go.Proofs.YtcnagconagpkcaaGreatDoor
theorem Py {k:Nat}:∀ (l c:List aW),vY k c l=0->(∀ x∈l,∀ p∈c,p.nm≠x.nm)/\l.Pairwise (λ a b=>a.nm≠b.nm)
 | [],c,_=>⟨λ x h=>(by cases h),List.Pairwise.nil⟩
 | a :: r,c,h=>by
  rw[vY] at h;split at h
  .exact absurd h (by decide)
  split at h
  .exact absurd h (by decide)
  rename_i f;split at h
  .exact absurd h (by decide)
  split at h
  .rename_i j;exact absurd h j
  obtain⟨g,i⟩:=Py r (c ++ [a]) h;have f:∀ p∈c,p.nm≠a.nm:=by simpa using f
  refine⟨λ x d p e=>?_,List.pairwise_cons.2 ⟨λ x d=>g x d a (by simp),i⟩⟩;rcases bf.1 d with rfl | d
  .exact f p e
  .exact g x d p (bo _ e)
theorem afn {l:List aW} (h:l.Pairwise (λ a b=>a.nm≠b.nm)):CW l:=by
 induction h with
 | nil=>intro a f;cases f
 | cons h1 _ ih =>
  intro a f b g e;rcases bf.1 f with d | d <;> rcases bf.1 g with c | c
  .rw[d,c]
  .rw[d] at e;exact absurd e (h1 b c)
  .rw[c] at e;exact absurd e.symm (h1 a d)
  .exact ih a d b c e
structure aaB (f:aG):Prop where
 nd:qI (aC f)
 top:kP (aC f) (-1)=f.items
 ls:CW f.lists
 pw:f.lists.Pairwise (λ a b=>a.nm≠b.nm)
theorem aiz {f:aG} (h:dh f=0):aaB f:=by
 obtain⟨l,-⟩:=ZO h;have n:=OY l;have m:f.lists.Pairwise (λ a b=>a.nm≠b.nm):=by
  unfold dh o9 at h;split at h
  .rename_i q;exact absurd h q
  split at h
  .rename_i q;exact absurd h q
  rename_i q;have q:kG f=0:=bp q;unfold kG at q;split at q
  .exact absurd q (by decide)
  exact (Py f.lists [] q).2
 have c:yh (aC f)=0:=by
  unfold jh at l;split at l
  .rename_i q;exact absurd l q
  .rename_i q;exact bp q
 have hcut:GK (aC f):=by
  unfold yh at c;split at c
  .exact absurd c (by decide)
  split at c
  .exact absurd c (by decide)
  rename_i D r;refine⟨by omega,λ d g=>?_⟩;simp only[List.any_eq_true,not_exists,not_and,Bool.or_eq_true,decide_eq_true_eq,not_or] at r;have:=(r d g).1;omega
 have o:=GG (N:=aC f) (L:=f.lists) ((aC f).length+1) 0 (by omega) (by
  unfold jh at l
  rwa [if_neg (λ q=>q c)] at l)
 obtain⟨z,y⟩:=Rq hcut;have A:=zK f;refine⟨⟨?_,?_,?_,λ i k=>KH n k,y,?_⟩,z,afn m,m⟩
 .intro d g e v p;obtain⟨i,k,rfl⟩:=bm g;obtain⟨j,u,rfl⟩:=bm v;have w:=KH n k;rw[p,KH n u] at w;have:i=j:=by omega
  subst this;rfl
 .intro d g p;have:=n.nm d g;rw[p] at this;exact absurd this (by decide)
 .intro d g;obtain⟨i,k,rfl⟩:=bm g;obtain⟨B,C⟩:=A i k;by_cases h0:(aC f)[i].par<0
  .exact .inl ⟨h0,by omega⟩
  .refine .inr ⟨(aC f)[i].par.toNat,by omega,by omega,?_⟩;unfold jC;rw[if_pos (by omega)];have e:(aC f)[i].par=((aC f)[i].par.toNat:Int):=by omega
   conv=>lhs;rw[e]
   rw[iY (by omega)]
 .intro d g t;obtain⟨i,k,rfl⟩:=bm g;have:=o i (bi _) k;unfold oV at this;rw[iY k] at this;dsimp only at this;split at this
  .exact absurd this (by decide)
  split at this
  .exact absurd this (by decide)
  split at this
  .exact absurd this (by decide)
  split at this
  .exact absurd this (by decide)
  rename_i s;generalize (aC f)[i].it=x at s t;have c:Dk x.ans=true:=by
   cases c:Dk x.ans
   .exact absurd (by unfold vZ;simp[t,c]) s
   .rfl
  generalize x.ans=a at c;unfold Dk at c;simp only[Bool.and_eq_true,decide_eq_true_eq,Bool.not_eq_true',List.length_eq_zero_iff] at c;cases a;simp only at c;unfold XI;simp only[jS.mk.injEq];simp_all
theorem PD {l l':List aW} (h:l.Pairwise (λ a b=>¬ b.nm.data.toList<a.nm.data.toList)) (i:l'.Pairwise (λ a b=>¬ b.nm.data.toList<a.nm.data.toList)) (c:l.Perm l') (o:CW l):l=l':=by
 refine List.Perm.eq_of_pairwise (le:=λ a b=>¬ b.nm.data.toList<a.nm.data.toList) (λ a b g n e m=>?_) h i c;refine o a g b (c.mem_iff.2 n) ?_;have:=List.le_antisymm e m;cases a;cases b;rename_i d _ k _;cases d;cases k;rename_i j f;cases j;cases f;simp_all
theorem Wq {l l':List aW} (h:l.Pairwise (λ a b=>a.nm≠b.nm)) (c:l'.Pairwise (λ a b=>a.nm≠b.nm)) (d:∀ x,x∈l ↔ x∈l'):l.Perm l':=
 (List.perm_ext_iff_of_nodup (h.imp λ {a b} q e=>q (by rw[e])) (c.imp λ {a b} q e=>q (by rw[e]))).2 d
end Go.Proofs.YtcnagconagpkcaaGreatDoor
namespace Go.Proofs.YtcnagconagpkcaaGreatDoor
open Go.RowKit
attribute [local go_sem ↓] Go.wp_at_zero Go.wp_at_succ
attribute [local go_sem ↓] ld_item st_item ld_node st_node ld_ans st_ans ld_part st_part ld_rule st_rule ld_form st_form
attribute [local go_sem ↓] ld_form
set_option maxHeartbeats 4000000
set_option maxRecDepth 100000
def D6 (n:Nat) (l:List jE):Prop:=l.length<=n/\∀ p∈l,1<=p.1/\p.1<=9
theorem rQ {c:Prop} {k:Int} {s:ByteArray} (a:1<=k/\k<=9):D6 1 (Rt c k s):=by
 unfold Rt;split
 .exact⟨by simp,λ p h=>by rw[be] at h;rw[h];exact a⟩
 .exact⟨by simp,λ p h=>by cases h⟩
theorem D6.app {n m:Nat} {l b:List jE} (h:D6 n l) (a:D6 m b):D6 (n+m) (l ++ b):=
 ⟨by rw[bn];have:=h.1;have:=a.1;omega,λ p c=>(bq.1 c).elim (h.2 p) (a.2 p)⟩
theorem D6.flat {α:Type} {F:α->List jE} {n:Nat}:∀ {l:List α},(∀ a,D6 n (F a))->D6 (n*l.length) (l.flatMap F)
 | [],_=>⟨bi _,λ p h=>by cases h⟩
 | a :: r,h=>by
  have:=(h a).app (D6.flat (l:=r) h);rw[List.flatMap_cons,List.length_cons,Nat.mul_succ,Nat.add_comm];exact this
theorem afo (N M:List ah) (d:ah):D6 (1+1+1+1+1) (rJ N M d):=by
 unfold rJ;split
 .exact⟨by simp,λ p h=>by rw[be] at h;subst h;exact⟨Int.le_refl 1,by show (1:Int)<=9;decide⟩⟩
 .exact D6.app (D6.app (D6.app (D6.app (rQ (by decide)) (rQ (by decide))) (rQ (by decide))) (rQ (by decide))) (rQ (by decide))
theorem PE (N M:List ah):D6 (1+(1+1+1+1+1)*N.length+1*M.length) (nG N M):=by
 unfold nG;exact D6.app (D6.app (rQ (by decide)) (D6.flat λ d=>afo _ _ d)) (D6.flat λ d=>rQ (by decide))
theorem acT (a b:aG):D6 (1+(1+1+1+1+1)*(aC a).length+1*(aC b).length+1*a.lists.length+1*b.lists.length+1) (rM a b):=by
 unfold rM;exact D6.app (D6.app (D6.app (PE _ _) (D6.flat λ d=>rQ (by decide))) (D6.flat λ d=>rQ (by decide))) (rQ (by decide))
theorem Em {f:aG} (h:dh f=0):f.lists.length<=60:=by
 unfold dh o9 at h;split at h
 .rename_i q;exact absurd h q
 split at h
 .rename_i q;exact absurd h q
 rename_i q;have q:kG f=0:=bp q;unfold kG at q;split at q
 .exact absurd q (by decide)
 .omega
theorem Wu (A:Option Addr) (c:Nat) (w:World):H8 49 #[a7 A 0 c] w (a7 A 0 c):=by
 go_enter Tryz.func49,Tryz.ntmps49;go_wp2;go_ret;exact⟨rfl,rfl⟩
def RN (a b:aG) (e:Ending):Prop:=((dh a≠0\/dh b≠0)/\∃ k,k≠0/\e = ba (.tuple #[a7 none 0 0,a4 a5 k])) \/
 (dh a=0/\dh b=0/\∃ (l:List jE) (A:Option Addr) (c:Nat),l.Perm (rM a b)/\l.Pairwise (λ p q=>¬ ltD q p)/\e = ba (.tuple #[a7 A (jJ l).length c,a4 a5 0]))
theorem Ju {w:World} {a b:aG} {x y:ku} (ha:gQ w w.heap.size a x) (K:gQ w w.heap.size b y) (ad:zh (aC a)) (Y:zh (aC b)) (m:Tab w) (Q:Mx w) :
  Calls Tryz.prog 19 #[.agg (BO a x),.agg (BO b y)] w λ e w'=>RN a b e/\EG w w':=by
 obtain⟨W,hW,h,BA,BB,aR⟩:=Ro w 26 26 (BO a x) (BO b y);have Ih:=qh (show ∀ d,EG W d->(qG 26 (a8 (some ⟨w.heap.size,0,none⟩))).run Tryz.prog d = .ok (.agg (BO a x)) d/\(qG 26 (a8 (some ⟨w.heap.size+1,0,none⟩))).run Tryz.prog d = .ok (.agg (BO b y)) d from λ d K =>
  ⟨nz (cs:=[a6 a.nm,a4 a5 a.ig,a7 x.AL a.aA.length x.cl,a7 x.AS a.lists.length x.cs,a7 x.AI a.items.length x.ci]) rfl (gU (BA.below K BA.lt)),nz (cs:=[a6 b.nm,a4 a5 b.ig,a7 y.AL b.aA.length y.cl,a7 y.AS b.lists.length y.cs,a7 y.AI b.items.length y.ci]) rfl (gU (BB.below K BB.lt))⟩)
 have KA:=qh (Jm ((ha.keep h).up h.size) ad (aF m h) (Q.below h));have KB:=qh (show ∀ d,EG W d->Calls Tryz.prog 22 #[.agg (BO b y)] d λ e w'=>wW b y e w'/\EG d w' from λ d j=>by
  have E:=h.trans (j.mono h.size);exact Jm ((K.keep E).up E.size) Y (aF m E) (Q.below E))
 have KE:=qh (show ∀ d,EG W d->Calls Tryz.prog 16 #[a7 x.AL a.aA.length x.cl,a7 y.AL b.aA.length y.cl] d λ e w'=>e = ba (a9 (decide (a.aA=b.aA)))/\EG d w' from λ d j=>by
  have E:=h.trans (j.mono h.size);exact kQ _ _ _ _ _ _ _ _ _ ha.la.2.2.1 K.la.2.2.1 (ha.la.1.below E) (K.la.1.below E))
 have U:=qh h;have T:=qh (bb BA BB);obtain⟨l1,l2⟩:=Ih.o _ (Below.refl _ _);clear ha K ad Y m Q BA BB;go_enter Tryz.func19,Tryz.ntmps19;go_upto_region 1 with (fail);rw[<- hW];clear hW;go_upto_region 2 with (go_at_call 22;(with_reducible refine KA.o.mono ?_);rintro e1 w1 ⟨hr,xW⟩;have D:=qh xW;rcases hr with ⟨j,rfl⟩ | ⟨j,B0,V,m1,m2,m3,A,c,rfl,o⟩)
 .have s:=qh j;clear j;obtain⟨n,G⟩:=af (dh a);rw[G] at s ⊢;have h0:(n != 0)=true:=bne_iff_ne.2 s.o;have HN:=qh G;clear G;go_wp2;go_ret2;exact⟨.inl ⟨.inl (by rw[HN.o];exact s.o),n,s.o,rfl⟩,U.o.trans (D.o.mono U.o.size)⟩
 .have B:=qh (bb j o);obtain⟨-,l2⟩:=Ih.o _ D.o;clear j o l1;go_upto_region 5 with (go_at_call 22;(with_reducible refine (KB.o _ D.o).mono ?_);rintro e2 f ⟨hr,xW⟩;have Bh:=qh xW;rcases hr with ⟨j,rfl⟩ | ⟨j,C0,S,n1,n2,n3,A',c',rfl,o⟩)
  .have s:=qh j;clear j;obtain⟨n,G⟩:=af (dh b);rw[G] at s ⊢;have h0:(n != 0)=true:=bne_iff_ne.2 s.o;have HN:=qh G;clear G;go_wp2;go_ret2;exact⟨.inl ⟨.inr (by rw[HN.o];exact s.o),n,s.o,rfl⟩,U.o.trans ((D.o.trans (Bh.o.mono D.o.size)).mono U.o.size)⟩
  .have u:=qh (bb j o);clear j o l2;have z:=D.o.trans (Bh.o.mono D.o.size);have hA:=B.o.2.keep Bh.o;have hB:=u.o.2;have hN:=zK a;have hM:=zK b;obtain⟨W3,v⟩:=aH (f.alloc (.cells #[a8 (some ⟨V,0,none⟩),a8 (some ⟨S,0,none⟩),a7 none 0 0] 127 (0,0)));have N:EG f W3:=v▸aB f _;have h0:oM f W3 f.heap.size V S []:=⟨N,bc _,none,0,v▸ag.new f _ _,World.ownsRow_nil _ _ _ _⟩;go_upto_region 8 with (fail);rw[<- v];clear v;have aZ:=hA.nodes.1;have a3:=hB.nodes.1;have aq:=Em B.o.1;have av:=Em u.o.1;have an:=PE (aC a) (aC b);have i:=acT a b;have KI:=qh (Wn hA hB hN hM h0 (by simp));have KL:=qh (show ∀ d,oM f d f.heap.size V S ([] ++ nG (aC a) (aC b))->Calls Tryz.prog 45 #[a8 (some ⟨f.heap.size,0,none⟩)] d λ e w'=>e = ba (.tuple #[])/\oM f w' f.heap.size V S ([] ++ nG (aC a) (aC b) ++ a.lists.flatMap (xe b.lists) ++ b.lists.flatMap (Ar a.lists))/\rO f d w' from λ d q=>RJ hA hB aq av q (by have:=an.1;simp only[bw];omega));have a1:w.heap.size<f.heap.size:=by have:=T.o.1.lt;have:=z.size;omega
   have al:=qh (rO.of (w0:=f) N (bc _));go_upto_region 10 with (first
    | (go_at_call 44;(with_reducible refine KI.o.mono ?_);rintro e4 w4 ⟨rfl,h4,f4⟩;have H4:=qh h4;have X:=qh (al.o.trans f4);clear h4 f4)
    | (go_at_call 45;(with_reducible refine (KL.o _ H4.o).mono ?_);rintro e5 w5 ⟨rfl,h5,f5⟩;have H5:=qh h5;have aE:=qh (X.o.trans f5);clear h5 f5))
   have DW:EG W w5:=z.trans (aE.o.bel.mono z.size);have I:ag w5 w.heap.size 26 _:=T.o.1.below DW T.o.1.lt;have O:ag w5 (w.heap.size+1) 26 _:=T.o.2.below DW T.o.2.lt;obtain⟨a0,a2,b0,b2⟩:=bb (I.cell 0) (bb (I.cell 2) (bb (O.cell 0) (O.cell 2)));obtain⟨g0,ak⟩:=af ((a.nm.toList == b.nm.toList));have aL:(a.nm.toList != b.nm.toList)=!g0:=by rw[bne,ak]
   obtain⟨g1,L⟩:=af (decide (a.aA=b.aA));rw[L] at KE;have p:=qh (show rM a b = [] ++ nG (aC a) (aC b) ++ a.lists.flatMap (xe b.lists) ++ b.lists.flatMap (Ar a.lists) ++ x8 (!g0 || !g1) 9 ⟨#[]⟩ from by
    rw[bw];unfold rM;congr 1;refine rP _ _ ?_ _ _;rw[<- ak,lu,<- L];have:=@dD _ a.nm b.nm;cases h9:bI a.nm b.nm <;> by_cases h8:a.aA=b.aA <;> simp_all)
   have KT:=qh (show ∀ d l,oM f d f.heap.size V S l->l.length<=100000->∀ nb,Calls Tryz.prog 46 #[a8 (some ⟨f.heap.size,0,none⟩),a9 nb,a4 a5 9,a6 ⟨#[]⟩] d λ e w'=>e = ba (.tuple #[])/\oM f w' f.heap.size V S (l ++ x8 nb 9 ⟨#[]⟩)/\rO f d w' from λ d l q E nb=>Au q (by omega) nb 9 ⟨#[]⟩);have Z:([] ++ nG (aC a) (aC b) ++ a.lists.flatMap (xe b.lists) ++ b.lists.flatMap (Ar a.lists)).length<=100000:=by
    have h1:=i.1;rw[p.o,bn] at h1;omega
   obtain⟨L5,hL⟩:=af ([] ++ nG (aC a) (aC b) ++ a.lists.flatMap (xe b.lists) ++ b.lists.flatMap (Ar a.lists));rw[hL] at H5 p Z;have ae:=qh i;have r:=qh (bb B.o.1 u.o.1);have ax:=qh DW;have J:=U.o.trans (z.mono U.o.size);clear i an hL B u hA hB hN hM KI KL h0 N al H4 X Ih T KA KB L I O D Bh;cases g0;rotate_left;cases g1
   all_goals
    go_upto_region 11 with (first
     | (go_at_call 16;(with_reducible refine (KE.o _ ax.o).mono ?_);rintro e6 w6 ⟨rfl,h6⟩;have H5:=qh (H5.o.keep h6);clear h6)
     | (go_at_call 46;(with_reducible refine (KT.o _ _ H5.o Z _).mono ?_);rintro e7 w7 ⟨rfl,h7,f7⟩;have H7:=qh h7;clear h7 f7))
    obtain⟨A9,c9,B9,t⟩:=H7.o.row;have q2:w7.cell? ⟨f.heap.size,2,none⟩=some (a7 A9 _ c9):=B9.cell 2;obtain⟨L9,C⟩:=af (rM a b);have M:=p.o.symm.trans C;have i:=ae.o;rw[C] at i;simp only[Bool.not_true,Bool.not_false,Bool.true_or,Bool.false_or] at M;rw[M] at t q2 B9;have WI:L9.length<=100000:=by have:=i.1;omega
    have HR:=qh (show L9=rM a b from C.symm);have KS:=qh (V5 t i.2 WI);have k:=qh (bb H7.o.bel (bb B9 t));clear C M i t B9 H7 ae p H5 KT KE;go_upto_region 12 with (go_at_call 47;(with_reducible refine KS.o.mono ?_);rintro e8 w8 ⟨rfl,hs⟩);rcases hs with ⟨rfl,R,rfl⟩ | ⟨gr,l',rfl,aa,aM,aX,H,ab,QS,ac⟩
    .obtain⟨n9,F⟩:=af (L9.length);rw[F] at q2;simp only[F];have e0:n9=0:=by rw[<- F,R];rfl
     subst e0;have aD:=qh R;clear F R;go_wp2_with (go_at_call 49;(with_reducible refine (Wu _ _ _).mono ?_);rintro aA ap ⟨rfl,rfl⟩);go_ret2;exact⟨.inr ⟨r.o.1,r.o.2,[],none,c9,by rw[<- HR.o,aD.o],List.Pairwise.nil,rfl⟩,J.trans (k.o.1.mono J.size)⟩
    .have P:=QS.length_eq;have am:=jw k.o.2.2 k.o.2.1 (by decide);have B8:=k.o.2.1.grown H (λ e=>am (show some gr=some f.heap.size from e.symm));have q3:w8.cell? ⟨f.heap.size,2,none⟩=some (a7 (some ⟨gr,0,none⟩) L9.length c9):=B8.cell 2;have KC:=qh (Wj (c:=c9) ab (by omega) (by omega));obtain⟨n9,F⟩:=af (L9.length);rw[F] at q3 P;simp only[F];rw[P] at KC;have HP:=qh (bb QS ac);have HG:=qh (((J.trans (k.o.1.mono J.size)).grown H (bd J.size k.o.1.size) (λ g e=>by injection e with e;subst e;exact bd J.size aa)));have ay:w.heap.size<=gr:=bd J.size aa;clear q2 B8 H ab QS ac F P am;go_wp2_with (go_at_call 49;(with_reducible refine KC.o.mono ?_);rintro aA ap ⟨⟨aw,ao,rfl⟩,ar⟩);go_ret2;exact⟨.inr ⟨r.o.1,r.o.2,l',aw,ao,by rw[<- HR.o];exact HP.o.1,HP.o.2,rfl⟩,HG.o.grown ar HG.o.size (λ g e=>by injection e with e;subst e;exact ay)⟩
set_option maxHeartbeats 4000000
set_option maxRecDepth 100000
theorem afp {a b:aG} (d:aaB a) (g:aaB b) {l:List jE} (c:l.Perm (rM a b)) (h:bI a {b with ig:=a.ig} = true):(jJ l).length=0:=by
 have e:=dD.1 h;have f:rM a b = []:=acG d.nd d.ls (by rw[e]) (by rw[e]) (by rw[e]) (by rw[e]);rw[f] at c;rw[c.eq_nil];rfl
theorem afq {a b:aG} (c:aaB a) (d:aaB b) {l:List jE} (i:l.Perm (rM a b)) (h:(jJ l).length=0) {La g:List aW} (f:La.Perm a.lists) (t:g.Perm b.lists) (o:La.Pairwise (λ a b=>¬ b.nm.data.toList<a.nm.data.toList)) (p:g.Pairwise (λ a b=>¬ b.nm.data.toList<a.nm.data.toList)):bI {a with lists:=La} {({b with ig:=a.ig}:aG) with lists:=g} = true:=by
 have j:l = []:=aad.1 (List.eq_nil_of_length_eq_zero h);rw[j] at i;have r:rM a b = []:=i.symm.eq_nil;obtain⟨u,w,e3,m⟩:=aah c.nd d.nd c.top d.top c.ls d.ls r;have e:=(f.trans (Wq c.pw d.pw m)).trans t.symm;have k:CW La:=λ x n y s q=>c.ls x (f.mem_iff.1 n) y (f.mem_iff.1 s) q;have v:=PD o p e k;refine dD.2 ?_;cases a;cases b;simp_all
theorem U2 {w:World} {a b:aG} {x y:ku} (ha:gQ w w.heap.size a x) (t:gQ w w.heap.size b y) (H:zh (aC a)) (E:zh (aC b)) (C:Tab w) (U:Mx w) :
  CS 5 #[.agg (BO a x),.agg (BO b y)] w (a9 true):=by
 obtain⟨W,hW,g,Z,Q,am⟩:=Ro w 26 26 (BO a x) (BO b y);have Ih:=qh (show ∀ d,EG W d->(ag d w.heap.size 26 (BO a x)/\ag d (w.heap.size+1) 26 (BO b y))/\(qG 26 (a8 (some ⟨w.heap.size,0,none⟩))).run Tryz.prog d = .ok (.agg (BO a x)) d/\(qG 26 (a8 (some ⟨w.heap.size+1,0,none⟩))).run Tryz.prog d = .ok (.agg (BO b y)) d from λ d t =>
  ⟨⟨Z.below t Z.lt,Q.below t Q.lt⟩,nz (cs:=[a6 a.nm,a4 a5 a.ig,a7 x.AL a.aA.length x.cl,a7 x.AS a.lists.length x.cs,a7 x.AI a.items.length x.ci]) rfl (gU (Z.below t Z.lt)),nz (cs:=[a6 b.nm,a4 a5 b.ig,a7 y.AL b.aA.length y.cl,a7 y.AS b.lists.length y.cs,a7 y.AI b.items.length y.ci]) rfl (gU (Q.below t Q.lt))⟩)
 have HW:=qh (show ∀ d,EG w d->(gQ d d.heap.size a x/\gQ d d.heap.size b y)/\Tab d/\Mx d from λ d L=>⟨⟨(ha.keep L).up L.size,(t.keep L).up L.size⟩,aF C L,U.below L⟩);have K1:=qh (show ∀ d,EG W d->Calls Tryz.prog 19 #[.agg (BO a x),.agg (BO b y)] d λ e w'=>RN a b e/\EG d w' from λ d s=>by
  obtain⟨⟨J,m⟩,N,O⟩:=HW.o d (g.trans (s.mono g.size));exact Ju J m H E N O)
 have K2:=qh (show ∀ d,EG W d->Calls Tryz.prog 19 #[.agg (BO b y),.agg (BO a x)] d λ e w'=>RN b a e/\EG d w' from λ d s=>by
  obtain⟨⟨J,m⟩,N,O⟩:=HW.o d (g.trans (s.mono g.size));exact Ju m J E H N O)
 have dH:=qh g;have i:=Below.refl W.heap.size W;obtain⟨-,I,D⟩:=Ih.o _ i;clear ha t H E C U Z Q g;go_enter Tryz.func5,Tryz.ntmps5;go_upto_region 1 with (fail);rw[<- hW];clear hW;go_upto_region 2 with (go_at_call 19;(with_reducible refine (K1.o _ i).mono ?_);rintro e1 w1 ⟨hd,S⟩;have j:=qh S;clear S;rcases hd with ⟨-,k,hk,rfl⟩ | ⟨c1,c2,l,A,c,hp,hs,rfl⟩)
 .have h0:(k != 0)=true:=bne_iff_ne.2 hk;clear hk;go_wp2;go_ret;exact⟨rfl,dH.o.trans (j.o.mono dH.o.size)⟩
 .have P:=aiz c1;have X:=aiz c2;have an:=Em c1;have ak:=Em c2;have f:=qh (bb (bb c1 c2) (bb (bb P X) (bb hp hs)));obtain⟨n,hn⟩:=af ((jJ l).length);simp only[hn];have HN:=qh hn;obtain⟨-,I,D⟩:=Ih.o _ j.o;clear c1 c2 hp hs hn P X;have KB:=qh (show Calls Tryz.prog 19 #[.agg (BO b y),.agg (BO a x)] w1 λ e w'=>(∃ A' c',e = ba (.tuple #[a7 A' n c',a4 a5 0]))/\EG w1 w' from (K2.o _ j.o).mono λ e w' ⟨hd,jl⟩=>by
   refine⟨?_,jl⟩;rcases hd with ⟨s,-⟩ | ⟨-,-,l',A',c',ab,aa,he⟩
   .exact absurd s (λ q=>q.elim (λ h=>h f.o.1.2) (λ h=>h f.o.1.1))
   .refine⟨A',c',?_⟩;rw[he,<- HN.o,acF f.o.2.1.1.nd f.o.2.1.2.nd f.o.2.1.1.ls f.o.2.1.2.ls f.o.2.2.1 ab f.o.2.2.2 aa])
  go_upto_region 5 with (go_at_call 19;(with_reducible refine KB.o.mono ?_);rintro e2 K ⟨⟨A',c',rfl⟩,R⟩;have V:=qh (j.o.trans (R.mono j.o.size));clear R);obtain⟨⟨b1,b2⟩,-,-⟩:=Ih.o _ V.o;have v1:K.cell? ⟨w.heap.size,1,none⟩=some (a4 a5 a.ig):=b1.cell 1;have v2:K.cell? ⟨w.heap.size+1,1,none⟩=some (a4 a5 b.ig):=b2.cell 1;have v3:K.frozen? ⟨w.heap.size+1,1,none⟩=false:=b2.frozen 1;obtain⟨W3,o⟩:=aH (K.setCell ⟨w.heap.size+1,1,none⟩ (a4 a5 a.ig));have T:Below w.heap.size K W3:=o▸(Below.refl _ K).setCell (p:=⟨w.heap.size+1,1,none⟩) (Nat.le_succ _) _;have G:ag W3 w.heap.size 26 (BO a x):=o▸b1.far (p:=⟨w.heap.size+1,1,none⟩) (by show w.heap.size≠w.heap.size+1;omega) _;have F:ag W3 (w.heap.size+1) 26 #[a6 b.nm,a4 a5 a.ig,a7 y.AL b.aA.length y.cl,a7 y.AS b.lists.length y.cs,a7 y.AI b.items.length y.ci]:=o▸b2.dS 1 _;have Y:=qh (show ∀ d,EG W3 d->(qG 26 (a8 (some ⟨w.heap.size,0,none⟩))).run Tryz.prog d = .ok (.agg (BO a x)) d/\(qG 26 (a8 (some ⟨w.heap.size+1,0,none⟩))).run Tryz.prog d = .ok (.agg #[a6 b.nm,a4 a5 a.ig,a7 y.AL b.aA.length y.cl,a7 y.AS b.lists.length y.cs,a7 y.AI b.items.length y.ci]) d from λ d t=>⟨nz (cs:=[a6 a.nm,a4 a5 a.ig,a7 x.AL a.aA.length x.cl,a7 x.AS a.lists.length x.cs,a7 x.AI a.items.length x.ci]) rfl (gU (G.below t G.lt)),nz (cs:=[a6 b.nm,a4 a5 a.ig,a7 y.AL b.aA.length y.cl,a7 y.AS b.lists.length y.cs,a7 y.AI b.items.length y.ci]) rfl (gU (F.below t F.lt))⟩);have v:=(dH.o.trans (V.o.mono dH.o.size)).trans T;have u:=qh (show ∀ d,EG W3 d->gQ d d.heap.size a x/\gQ d d.heap.size {b with ig:=a.ig} y from λ d s=>by
   obtain⟨⟨J,m⟩,-,-⟩:=HW.o d (v.trans (s.mono v.size));exact⟨J,m.nm,m.la,m.ls,m.li,m.it,m.ii⟩)
  have M:=qh v;clear b1 b2 G F T v I D K1 K2 Ih j;go_upto_region 8 with (fail);rw[<- o];clear o v1 v2 v3;have i:=Below.refl W3.heap.size W3;obtain⟨I,D⟩:=Y.o _ i;obtain⟨r,hr⟩:=af (bI a {b with ig:=a.ig});have KE:=qh (hr▸xk (u.o _ i).1 (u.o _ i).2 (bc _) (bc _));have HR:=qh hr;clear hr;change Hid (Calls _ _ #[.agg (BO a x),.agg #[a6 b.nm,a4 a5 a.ig,a7 y.AL b.aA.length y.cl,a7 y.AS b.lists.length y.cs,a7 y.AI b.items.length y.ci]] W3 _) at KE;cases r
  .by_cases h0:n=0
   .subst h0;have KR:=qh (show ∀ d,EG W3 d->Calls Tryz.prog 21 #[.agg (BO a x),.agg #[a6 b.nm,a4 a5 a.ig,a7 y.AL b.aA.length y.cl,a7 y.AS b.lists.length y.cs,a7 y.AI b.items.length y.ci]] d λ e w'=>e = ba (a9 true)/\EG d w' from λ d s=>(Wh (u.o d s).1 (u.o d s).2 (by omega) (by show b.lists.length<=1000;omega)).mono λ e w' ⟨⟨La,Lb,J,m,N,O,he⟩,ad⟩=>⟨by rw[he,afq f.o.2.1.1 f.o.2.1.2 f.o.2.2.1 HN.o J m N O],ad⟩);go_wp2_with (first
     | (go_at_call 20;(with_reducible refine KE.o.mono ?_);rintro e5 w5 ⟨rfl,z⟩;have B:=qh z;clear z I D;obtain⟨I,D⟩:=Y.o _ B.o)
     | (go_at_call 21;(with_reducible refine (KR.o _ B.o).mono ?_);rintro e6 w6 ⟨rfl,h6⟩;have H6:=qh (B.o.trans (h6.mono B.o.size));clear h6))
    go_ret;exact⟨rfl,M.o.trans (H6.o.mono M.o.size)⟩
   .have ae:decide ((n:Int) > 0)=true:=decide_eq_true (by omega);have al:decide (0<n)=true:=decide_eq_true (by omega);clear h0;go_wp2_with (go_at_call 20;(with_reducible refine KE.o.mono ?_);rintro e5 w5 ⟨rfl,z⟩;have B:=qh z;clear z I D);go_ret;exact⟨rfl,M.o.trans (B.o.mono M.o.size)⟩
  .have ac:n=0:=by rw[<- HN.o];exact afp f.o.2.1.1 f.o.2.1.2 f.o.2.2.1 HR.o
   subst ac;go_wp2_with (go_at_call 20;(with_reducible refine KE.o.mono ?_);rintro e5 w5 ⟨rfl,z⟩;have B:=qh z;clear z I D);go_ret;exact⟨rfl,M.o.trans (B.o.mono M.o.size)⟩
end Go.Proofs.YtcnagconagpkcaaGreatDoor
namespace Go.Proofs.YtcnagconagpkcaaGreatDoor
open Go.ChangeShapes Go.WideShapes Go.ChangeAt Go.RowKit Go.Joins
theorem own:ownKnob Tryz.prog.godebug=none:=by kernel_rfl
theorem laidOut:laidOutB Tryz.prog=true:=by kernel_rfl
theorem yB {H:Type} {enc:TypeId × Value->H} {P:Program} {W f:World} (g:laidOutB P=true) (i:EG W f) :
  ∀ {c:List TypeId} {d:List Value} {ds:List (DataW H)} {ps:List MemPlace},(∀ t∈c,P.readableRec t=true/\t<P.types.size) ->
  DataW.TrodAll enc P W 0 (λ _=>true) true c d ds ps->(∀ x∈ps,x.block<W.heap.size)->DataW.TrodAll enc P f 0 (λ b=>decide (b<W.heap.size)) true c d ds ps
 | [],[],[],_,_,h,_=>h
 | _ :: _,_ :: _,_ :: _,_,hr,⟨p,q,h1,h2,e⟩,hs =>
  ⟨p,q,Below.trod g (hr _ (bf.2 (Or.inl rfl))).1 (hr _ (bf.2 (Or.inl rfl))).2 h1 i (λ x a=>hs x (by rw[e];exact bo _ a)),
   yB g i (λ t j=>hr t (bf.2 (Or.inr j))) h2 (λ x a=>hs x (by rw[e];exact List.mem_append_right _ a)),e⟩
 | [],[],_ :: _,_,_,h,_=>h.elim
 | [],_ :: _,_,_,_,h,_=>by cases h
 | _ :: _,[],_,_,_,h,_=>by cases h
 | _ :: _,_ :: _,[],_,_,h,_=>h.elim
theorem Yg {H:Type} {enc:TypeId × Value->H} {f:Func} {s:ChangeSpec} {W W':World} {args:Array Value} {ds b:List (DataW H)} {a:List MemPlace}
  (k:∀ t∈f.params.toList,Tryz.prog.readableRec t=true/\t<Tryz.prog.types.size) (d:f.resultTypes = #[4]) (j:s.vars = [])
  (o:(s.fn H (ds ++ b)).results = [.lit (.bool true)]) (r:(s.fn H (ds ++ b)).args=ds) (n:(s.fn H (ds ++ b)).vars = [])
  (e:DataW.Whole enc Tryz.prog f.params.toList s.vars false W args.toList ds b a) (i:EG W W'):s.post enc Tryz.prog f false true false false W args (.bool true) W':=by
 have g:=e.lt;have c:=e;obtain⟨p,q,l,u,rfl,_,_⟩:=e;refine⟨ds,b,p ++ q,[],p,[],c,?_,?_,?_,i.frame _,λ h=>by cases h⟩
 .rw[o,d];exact⟨[],[],shut_bool Tryz.underlying4 true,rfl,rfl⟩
 .rw[r];exact yB laidOut i k l (λ x m=>by simpa using g x (bo _ m))
 .rw[n,j];rfl
def PG:List (String × DataW Unit):=[("math/bits.deBruijn32tab",Rows.laid_math_bits_deBruijn32tab),("math/bits.deBruijn64tab",Rows.laid_math_bits_deBruijn64tab),("internal/strconv.uint64pow10",Rows.laid_internal_strconv_uint64pow10),("unicode/utf8.acceptRanges",Rows.laid_unicode_utf8_acceptRanges),("unicode/utf8.first",Rows.laid_unicode_utf8_first)]
theorem Wx:(PG.all λ x=>x.2.handleName?.isNone)=true:=by kernel_rfl
theorem aaC:Tryz.prog.globalNamed "internal/strconv.uint64pow10" = some 2:=by kernel_rfl
theorem Wy:(Tryz.prog.globals[2]?).map (·.type)=some 292:=by kernel_rfl
theorem aaD:Tryz.prog.cellsOf 292=20:=by kernel_rfl
theorem aaE:Tryz.prog.cellsOf 249=1:=by kernel_rfl
theorem PH:(Rows.laid_internal_strconv_uint64pow10:DataW Unit)=Lib.tabData .u64 Lib.pow10Tab:=by kernel_rfl
theorem ad4 {W:World} (h:laidMetH Tryz.prog PG W):Tab W:=by
 rw[MakeChecks.laidMetH_plain _ _ _ Wx] at h;have a:=(laidMet.tail (laidMet.tail h));unfold Tab;rw[PH] at a;exact Lib.tabIs_of_head aaC Wy Tryz.underlying292 Tryz.underlying249 aaE aaD a
theorem ahk {W:World} (h:W.ShapedOpen Tryz.prog):Mx W:=
 cell_of_shapedOpen_int (zero:=#[.int .i64 0]) (t:=3) h (by decide +kernel) (by kernel_rfl) rfl (by kernel_rfl) (by kernel_rfl) Tryz.underlying3
def aaF:DataW Unit->List Value
 | .lit (.int k n)=>[.int k n]
 | _=>[]
def aiB:DataW Unit->List Value
 | .agg l=>l.flatMap aaF
 | d=>aaF d
def flat3:DataW Unit->List Value
 | .agg l=>l.flatMap aiB
 | d=>aaF d
def xn (d:DataW Unit) (o:Obj):Obj:=match o with
 | .cells _ t frozen=>.cells (flat3 d).toArray t frozen
 | o=>o
noncomputable def laidWorld (os:Os):World:=
 { World.holding Tryz.prog os ⟨#[],#[],[]⟩ with heap:=((((((World.holding Tryz.prog os ⟨#[],#[],[]⟩).heap.modify 4 (xn Rows.laid_math_bits_deBruijn32tab)).modify 5 (xn Rows.laid_math_bits_deBruijn64tab)).modify 2 (xn Rows.laid_internal_strconv_uint64pow10)).modify 7 (xn Rows.laid_unicode_utf8_acceptRanges)).modify 6 (xn Rows.laid_unicode_utf8_first)) }
end Go.Proofs.YtcnagconagpkcaaGreatDoor
