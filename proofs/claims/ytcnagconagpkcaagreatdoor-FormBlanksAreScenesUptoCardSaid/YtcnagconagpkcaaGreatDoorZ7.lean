/- Lemmas. -/
import Derived.Test.YtcnagconagpkcaaGreatDoorZ6
import Derived.Test.YtcnagconagpkcaaGreatDoorRows
import Derived.ProofKit
import Derived.SliceStrings
import Derived.ChangeSlices
import Derived.Deep.Slices
import Derived.Lib.SmallJoins
import Derived.Lib.ItoaNum
set_option maxHeartbeats 8000000
set_option maxRecDepth 100000
open Go.Value renaming int->b2, string->b4, slice->b5, pointer->b6, bool->b9
open Go.IntKind renaming i64->b3
open Go.Obj renaming cells->b7
open And renaming intro->ca
open Nat renaming le_refl->ce, le_trans->cf, lt_of_lt_of_le->cw, mod_lt->cx, zero_le->cA, mul_comm->cC, succ_mul->cQ, div_add_mod->cR, pow_succ->cV, strongRecOn->cW
open Go.DataW renaming trod->cg, slice->cD, trod_struct->cT
open Option.some renaming inj->ch
open List renaming getElem?_eq_getElem->cj, range->cp, length_take->cq, getElem?_take->ct, drop_eq_nil_of_le->cv, getLast?_eq_getElem?->cz, take_of_length_le->cB, foldl_cons->cE, find?_eq_none->cF, find?_some->cG, mem_of_find?_eq_some->cH, getElem?_map->cI, getD_eq_getElem?_getD->cJ, take_succ_eq_append_getElem->cL, length_cons->cM, range_succ->cN, flatMap_append->cO, length_append->cP, map_map->cS, mem_append->cU, mem_singleton->cX, replicate->cY
open Go.Lib renaming decDigits->ck
open Go.Instr renaming lookup->co, mapUpdate->cK
open Go.IntWalk renaming i64_in->cu
namespace Go.Proofs.YtcnagconagpkcaaGreatDoor
open Go.RowKit
attribute [local go_sem ↓] Go.wp_at_zero Go.wp_at_succ
theorem UJ {w:World} {B:Nat} {a:List (ByteArray × Value)} {l:List aG} (h:MR w B a l) (s:ByteArray) :
  (fK a s=none/\l.find? (λ c=>decide (c.nm=s))=none)\/∃ d cs,fK a s=some (.agg cs.toArray)/\lu w B d cs/\d∈l/\l.find? (λ c=>decide (c.nm=s))=some d:=by
 cases hg:fK a s with
 | none=>exact .inl ⟨rfl,rY (λ d k=>by have:=h.no s hg d k;simp[this])⟩
 | some v =>
  obtain⟨d,cs,b,e,j,i⟩:=h.yes s v hg;refine .inr ⟨d,cs,by rw[j],i,b,?_⟩;cases hf:l.find? (λ c=>decide (c.nm=s)) with
  | none=>exact absurd (cF.1 hf d b) (by simp[e])
  | some x =>
   have g:=cG hf;rw[decide_eq_true_iff] at g;have:=Cb (f:=aG.nm) h.one (cH hf) b (by rw[g,e]);subst this;rfl
theorem FM (f:List aG) (M:List aQ) (jl jv:List (ByteArray × Value)) (F m2 m3 m4 Z B:Nat) (a:List gm) (AL:Option Addr) (cl i:Nat) (hi:i<a.length) (w:World) (hS:ah w Z 168 #[.map (some F),.map (some m2),.map (some m3),.map (some m4)]) (hw:MS w B F m2 jl jv f M) (hL:su w B AL a) (hB:B<=w.heap.size) :
  IE 76 #[b6 (some ⟨Z,0,none⟩),b5 AL a.length cl,b2 b3 (i:Nat)] w (b2 b3 (gW f (a.take i) a[i])):=by
 have SV:=qh hw;have s:=qh (ca hL hB);have aW:=hL.1;unfold maxLen at aW;obtain⟨ad,ci,rfl,hb,ar,g⟩:=hL.at_ hi;obtain⟨b,O⟩:=af (a[i]);rw[O] at ar ⊢;have a6:=qh O;have HI:=qh hi;obtain⟨⟨y,t,Q,R,rfl,al,ay⟩,ae,am,aa,ax⟩:=ar;have A:=qh (ca ae (ca am (ca aa (ca ax (ca al ay)))));have kC:w.cell? (ad.add (i*7))=some (b4 b.nm):=g 0 _ rfl;have kT:w.cell? ⟨(ad.add (i*7)).block,(ad.add (i*7)).off+1,none⟩=some (b5 y b.row.length t):=g 1 _ rfl;have nZ:w.cell? ⟨(ad.add (i*7)).block,(ad.add (i*7)).off+2,none⟩=some (b2 b3 b.v.k):=g 2 _ rfl;have tV:w.cell? ⟨(ad.add (i*7)).block,(ad.add (i*7)).off+3,none⟩=some (b2 b3 b.v.n):=g 3 _ rfl;have tX:w.cell? ⟨(ad.add (i*7)).block,(ad.add (i*7)).off+4,none⟩=some (b4 b.v.s):=g 4 _ rfl;have tY:w.cell? ⟨(ad.add (i*7)).block,(ad.add (i*7)).off+5,none⟩=some (b5 Q b.v.l.length R):=g 5 _ rfl;have tZ:w.cell? ⟨(ad.add (i*7)).block,(ad.add (i*7)).off+6,none⟩=some (b9 b.asked):=g 6 _ rfl;have HN:=qh (UJ hw.cc b.nm);have a0:(0:Int)<=(i:Nat):=by omega
 have a1:(i:Int)<(a.length:Nat):=by omega
 have a3:=hS.lt;clear hw hL hB g O ae am aa ax al ay hb;go_enter Tryz.func76,Tryz.ntmps76;go_upto_region 2 with (fail);obtain⟨W,hW⟩:=aC ((w.alloc (b7 #[b4 b.nm,b5 y b.row.length t,b2 b3 b.v.k,b2 b3 b.v.n,b4 b.v.s,b5 Q b.v.l.length R,b9 b.asked] 170 (0,0))));have u:IY w W:=by rw[hW];exact ((Below.refl _ w).alloc (ce _) _)
 have B0:ah W (w.heap.size) 170 #[b4 b.nm,b5 y b.row.length t,b2 b3 b.v.k,b2 b3 b.v.n,b4 b.v.s,b5 Q b.v.l.length R,b9 b.asked]:=by
  rw[hW];have:=ah.new w 170 #[b4 b.nm,b5 y b.row.length t,b2 b3 b.v.k,b2 b3 b.v.n,b4 b.v.s,b5 Q b.v.l.length R,b9 b.asked];exact this
 have aM:W.heap.size=w.heap.size+1:=by rw[hW];simp
 rw[<- hW];have B1:=B0;have B0:ah W Z 168 #[.map (some F),.map (some m2),.map (some m3),.map (some m4)]:=hS.below u hS.lt;have G:W.cell? ⟨Z,0,none⟩=some (.map (some F)):=B0.cell 0;have XO:W.cell? ⟨w.heap.size,0,none⟩=some (b4 b.nm):=B1.cell 0;have Kw:=qh (SV.o.c.below u SV.o.c.lt);have ab:=qh B1;clear hW aM B1  kC kT nZ tV tX tY tZ;rcases HN.o with ⟨hg,hf⟩ | ⟨d,ds,hg,hd,a4,hf⟩
 .skip
  have C:∀ w',IY W w'->(co 159 (.map (some F)) (b4 b.nm) true).run Tryz.prog w' = .ok (.tuple #[.agg #[b4 ⟨#[]⟩,b2 b3 0,b5 none 0 0],b9 false]) w':=λ w' k=>by
   have h:=(Kw.o.below k Kw.o.lt).look Tryz.underlying159 (zeroCell w') A.o.1;rw[hg] at h;exact h
  have U:=qh C;have HF:=qh hf;have T:=U.o W (Below.refl _ _);have j:=Below.refl W.heap.size W;have x:=qh (λ w' (H:IY W w')=>ca (Below.cell_of H G) (ca (Below.cell_of H XO) (ca (U.o w' H) H)));clear C hf hg;go_region_held3 (λ w'=>w'.cell? ⟨Z,0,none⟩=some (.map (some F))/\w'.cell? ⟨w.heap.size,0,none⟩=some (b4 b.nm)/\(co 159 (.map (some F)) (b4 b.nm) true).run Tryz.prog w' = .ok (.tuple #[.agg #[b4 ⟨#[]⟩,b2 b3 0,b5 none 0 0],b9 false]) w'/\IY W w') (first | exact x.o _ j.drew | exact x.o _ (j.alloc (ce _) _) | exact x.o _ (j.alloc (ce _) _).drew | exact x.o _ (j.drew.alloc (ce _) _) | exact x.o _ j) (fail)
  all_goals
   obtain⟨W2,n⟩:=aC ((W.alloc (b7 #[b4 ⟨#[]⟩,b2 b3 0,b5 none 0 0] 51 (0,0))).drew);have o:IY W W2:=n▸((Below.refl _ W).alloc (ce _) _).drew;have l:=u.trans (o.mono u.size);have B2:ah W2 W.heap.size 51 #[b4 ⟨#[]⟩,b2 b3 0,b5 none 0 0]:=n▸(ah.new W _ _).drew;rw[<- n];clear n T x U G;have B0:=B0.below o B0.lt;have jA:=qh (show gW f (a.take i) b=5 by unfold gW;rw[HF.o]);clear o B2 B0;go_wp2_with (fail);go_ret;exact⟨ag (by rw[jA.o]),l⟩
 .obtain⟨⟨A',c',rfl,wK,a5⟩,a2,ap,aR⟩:=hd;have nR:=qh ap;clear wK ap aR;have C:∀ w',IY W w'->(co 159 (.map (some F)) (b4 b.nm) true).run Tryz.prog w' = .ok (.tuple #[.agg #[b4 d.nm,b2 b3 d.kind,b5 A' d.loops.length c'],b9 true]) w':=λ w' k=>by
   have h:=(Kw.o.below k Kw.o.lt).look Tryz.underlying159 (zeroCell w') A.o.1;rw[hg] at h;exact h
  have U:=qh C;have HF:=qh hf;have T:=U.o W (Below.refl _ _);have j:=Below.refl W.heap.size W;have x:=qh (λ w' (H:IY W w')=>ca (Below.cell_of H G) (ca (Below.cell_of H XO) (ca (U.o w' H) H)));clear C hf hg;go_region_held3 (λ w'=>w'.cell? ⟨Z,0,none⟩=some (.map (some F))/\w'.cell? ⟨w.heap.size,0,none⟩=some (b4 b.nm)/\(co 159 (.map (some F)) (b4 b.nm) true).run Tryz.prog w' = .ok (.tuple #[.agg #[b4 d.nm,b2 b3 d.kind,b5 A' d.loops.length c'],b9 true]) w'/\IY W w') (first | exact x.o _ j.drew | exact x.o _ (j.alloc (ce _) _) | exact x.o _ (j.alloc (ce _) _).drew | exact x.o _ (j.drew.alloc (ce _) _) | exact x.o _ j) (fail)
  all_goals
   obtain⟨W2,n⟩:=aC ((W.alloc (b7 #[b4 d.nm,b2 b3 d.kind,b5 A' d.loops.length c'] 51 (0,0))).drew);have o:IY W W2:=n▸((Below.refl _ W).alloc (ce _) _).drew;have l:=u.trans (o.mono u.size);have B2:ah W2 W.heap.size 51 #[b4 d.nm,b2 b3 d.kind,b5 A' d.loops.length c']:=n▸(ah.new W _ _).drew;rw[<- n];clear n T x U G;have B0:=B0.below o B0.lt;have B1:=ab.o.below o ab.o.lt;have aD:Below B w W2:=l.mono s.o.2;clear o;obtain⟨f1,L⟩:=af (qQ b.row d.loops.length);have wL:=qh L;have UK:=qh (Aq b.row d.loops.length y t B W2 nR.o A.o.2.1 (A.o.2.2.2.2.1.below aD));rw[L] at UK;have aE:W2.cell? ⟨w.heap.size,0,none⟩=some (b4 b.nm):=B1.cell 0;have aq:W2.cell? ⟨w.heap.size,1,none⟩=some (b5 y b.row.length t):=B1.cell 1;have an:W2.cell? ⟨w.heap.size,2,none⟩=some (b2 b3 b.v.k):=B1.cell 2;have av:W2.cell? ⟨w.heap.size,3,none⟩=some (b2 b3 b.v.n):=B1.cell 3;have ak:W2.cell? ⟨w.heap.size,4,none⟩=some (b4 b.v.s):=B1.cell 4;have ac:W2.cell? ⟨w.heap.size,5,none⟩=some (b5 Q b.v.l.length R):=B1.cell 5;have aw:W2.cell? ⟨w.heap.size,6,none⟩=some (b9 b.asked):=B1.cell 6;have dl:W2.cell? ⟨W.heap.size,2,none⟩=some (b5 A' d.loops.length c'):=B2.cell 2;have dk:W2.cell? ⟨W.heap.size,1,none⟩=some (b2 b3 d.kind):=B2.cell 1;clear L XO;go_wp2_with fail;refine UK.o.mono ?_;rintro en w' ⟨rfl,rfl⟩;by_cases h0:f1=0;rotate_left
   .have bg:(f1 != 0)=true:=by simpa using h0
    have v:=qh (show gW f (a.take i) b=f1 by unfold gW;rw[HF.o];show (if qQ b.row d.loops.length≠0 then _ else _)=_;rw[wL.o,if_pos h0]);clear h0;go_wp2_with fail;go_ret;exact⟨ag (by rw[v.o]),l⟩
   subst h0;obtain⟨f2,I⟩:=af (bG b.v);have ao:=qh I;have N:=qh (check_any b.v Q R B W2 A.o.2.2.2.1 A.o.2.2.1 (A.o.2.2.2.2.2.below aD) (cf s.o.2 l.size));rw[I] at N;clear I UK;go_wp2_with fail;refine N.o.mono ?_;rintro en m ⟨rfl,V⟩;have c:=l.trans (V.mono l.size);have B1:=B1.below V B1.lt;have B2:=B2.below V B2.lt;clear N aE aq an av ak ac aw dl dk;have aE:m.cell? ⟨w.heap.size,0,none⟩=some (b4 b.nm):=B1.cell 0;have aq:m.cell? ⟨w.heap.size,1,none⟩=some (b5 y b.row.length t):=B1.cell 1;have an:m.cell? ⟨w.heap.size,2,none⟩=some (b2 b3 b.v.k):=B1.cell 2;have av:m.cell? ⟨w.heap.size,3,none⟩=some (b2 b3 b.v.n):=B1.cell 3;have ak:m.cell? ⟨w.heap.size,4,none⟩=some (b4 b.v.s):=B1.cell 4;have ac:m.cell? ⟨w.heap.size,5,none⟩=some (b5 Q b.v.l.length R):=B1.cell 5;have aw:m.cell? ⟨w.heap.size,6,none⟩=some (b9 b.asked):=B1.cell 6;have dk:m.cell? ⟨W.heap.size,1,none⟩=some (b2 b3 d.kind):=B2.cell 1;by_cases h0:f2=0;rotate_left
   .have bg:(f2 != 0)=true:=by simpa using h0
    have v:=qh (show gW f (a.take i) b=f2 by unfold gW;rw[HF.o];show (if qQ b.row d.loops.length≠0 then _ else _)=_;rw[wL.o,if_neg (by decide),ao.o,if_pos h0]);clear h0;go_wp2_with fail;go_ret;exact⟨ag (by rw[v.o]),c⟩
   subst h0;have X:=qh (show gW f (a.take i) b=if 1<b.v.k/\b.v.k≠d.kind then 8 else (match (a.take i).getLast? with | none=>0 | some p=>dI b.nm b.row p.nm p.row) by unfold gW;rw[HF.o];show (if qQ b.row d.loops.length≠0 then _ else _)=_;rw[wL.o,if_neg (by decide),ao.o,if_neg (by decide)];rfl);by_cases hk1:1<b.v.k
   .by_cases hk2:b.v.k=d.kind
    .have bk:(b.v.k != d.kind)=false:=by simp[hk2]
     have HQ:=qh (show gW f (a.take i) b=(match (a.take i).getLast? with | none=>0 | some p=>dI b.nm b.row p.nm p.row) by rw[X.o,if_neg (λ h=>h.2 hk2)]);clear hk2;by_cases h0:i=0
     .have bg:((i:Int) == 0)=true:=by simp;omega
      have v:=qh (show gW f (a.take i) b=0 by rw[HQ.o,h0];rfl);clear h0;go_wp2_with fail;go_ret;exact⟨ag (by rw[v.o]),c⟩
     .have bg:((i:Int) == 0)=false:=by simp;omega
      have r:i - 1<a.length:=by omega
      obtain⟨aL,pi,J,-,D,K⟩:=(s.o.1.keep (c.mono s.o.2)).at_ r;injection J with J;subst J;obtain⟨p,q⟩:=af (a[i - 1]);rw[q] at D;have v:=qh (show gW f (a.take i) b=dI b.nm b.row p.nm p.row by
       rw[HQ.o,show (a.take i).getLast?=some p by rw[cz,ct,cq,if_pos (by omega),show min i a.length - 1=i - 1 by omega,cj r,q]])
      obtain⟨⟨S,Y,A6,c6,rfl,NV,XP⟩,P,z,sD,vZ⟩:=D;obtain⟨Iy,WL⟩:=H7 K;have i0:IntKind.i64.wrap ((i:Int) - 1)=(i:Int) - 1:=cu _ (by omega);have i1:((i:Int) - 1).toNat=i - 1:=by omega
      have i2:(0:Int)<=(i:Int) - 1:=by omega
      have i3:(i:Int) - 1<(a.length:Nat):=by omega
      have k1:∀ w',IY m w'->IE 125 #[b4 b.nm,b5 y b.row.length t,b4 p.nm,b5 S p.row.length Y] w' (b2 b3 (dI b.nm b.row p.nm p.row)):=λ w' k =>
       wY b.nm p.nm b.row p.row y S t Y B w' A.o.2.1 z (A.o.2.2.2.2.1.below ((c.mono s.o.2).trans (k.mono (cf s.o.2 c.size)))) (NV.below (k.mono (cf s.o.2 c.size))) (cf (cf s.o.2 c.size) k.size)
      have K1:=qh (Later.call k1);have q0:=Later.cell Iy;have q1:=Later.cell WL;have q2:=Later.cell (show m.cell? ⟨w.heap.size,0,none⟩=some (b4 b.nm) from by assumption);have q3:=Later.cell (show m.cell? ⟨w.heap.size,1,none⟩=some (b5 y b.row.length t) from by assumption);clear k1 K q NV XP P z sD vZ h0 r Iy WL;go_upto_region 15 with (fail);refine aF (by kernel_rfl) (by kernel_rfl) ?_
      repeat (go_big_quiet_step (with_reducible exact K1.o _))
      refine wpQuiet_nil ?_;intro W9 E;have eP:=dY E;clear E;go_wp2_with fail;go_ret;exact⟨ag (by rw[v.o]),c.trans (eP.mono c.size)⟩
    .have bk:(b.v.k != d.kind)=true:=by simp[hk2]
     have v:=qh (show gW f (a.take i) b=8 by rw[X.o,if_pos ⟨hk1,hk2⟩]);clear hk2;go_wp2_with fail;go_ret;exact⟨ag (by rw[v.o]),c⟩
   .have HQ:=qh (show gW f (a.take i) b=(match (a.take i).getLast? with | none=>0 | some p=>dI b.nm b.row p.nm p.row) by rw[X.o,if_neg (λ h=>hk1 h.1)]);by_cases h0:i=0
    .have bg:((i:Int) == 0)=true:=by simp;omega
     have v:=qh (show gW f (a.take i) b=0 by rw[HQ.o,h0];rfl);clear h0;go_wp2_with fail;go_ret;exact⟨ag (by rw[v.o]),c⟩
    .have bg:((i:Int) == 0)=false:=by simp;omega
     have r:i - 1<a.length:=by omega
     obtain⟨aL,pi,J,-,D,K⟩:=(s.o.1.keep (c.mono s.o.2)).at_ r;injection J with J;subst J;obtain⟨p,q⟩:=af (a[i - 1]);rw[q] at D;have v:=qh (show gW f (a.take i) b=dI b.nm b.row p.nm p.row by
      rw[HQ.o,show (a.take i).getLast?=some p by rw[cz,ct,cq,if_pos (by omega),show min i a.length - 1=i - 1 by omega,cj r,q]])
     obtain⟨⟨S,Y,A6,c6,rfl,NV,XP⟩,P,z,sD,vZ⟩:=D;obtain⟨Iy,WL⟩:=H7 K;have i0:IntKind.i64.wrap ((i:Int) - 1)=(i:Int) - 1:=cu _ (by omega);have i1:((i:Int) - 1).toNat=i - 1:=by omega
     have i2:(0:Int)<=(i:Int) - 1:=by omega
     have i3:(i:Int) - 1<(a.length:Nat):=by omega
     have k1:∀ w',IY m w'->IE 125 #[b4 b.nm,b5 y b.row.length t,b4 p.nm,b5 S p.row.length Y] w' (b2 b3 (dI b.nm b.row p.nm p.row)):=λ w' k =>
      wY b.nm p.nm b.row p.row y S t Y B w' A.o.2.1 z (A.o.2.2.2.2.1.below ((c.mono s.o.2).trans (k.mono (cf s.o.2 c.size)))) (NV.below (k.mono (cf s.o.2 c.size))) (cf (cf s.o.2 c.size) k.size)
     have K1:=qh (Later.call k1);have q0:=Later.cell Iy;have q1:=Later.cell WL;have q2:=Later.cell (show m.cell? ⟨w.heap.size,0,none⟩=some (b4 b.nm) from by assumption);have q3:=Later.cell (show m.cell? ⟨w.heap.size,1,none⟩=some (b5 y b.row.length t) from by assumption);clear k1 K q NV XP P z sD vZ h0 r Iy WL;go_upto_region 15 with (fail);refine aF (by kernel_rfl) (by kernel_rfl) ?_
     repeat (go_big_quiet_step (with_reducible exact K1.o _))
     refine wpQuiet_nil ?_;intro W9 E;have eP:=dY E;clear E;go_wp2_with fail;go_ret;exact⟨ag (by rw[v.o]),c.trans (eP.mono c.size)⟩
theorem UL {w:World} {B:Nat} {a:List (ByteArray × Value)} {l:List aQ} (h:Kv w B a l) (s:ByteArray) :
  (fK a s=none/\l.find? (λ c=>decide (c.nm=s))=none)\/∃ d cs,fK a s=some (.agg cs.toArray)/\lV w B d cs/\d∈l/\l.find? (λ c=>decide (c.nm=s))=some d:=by
 cases hg:fK a s with
 | none=>exact .inl ⟨rfl,rY (λ d k=>by have:=h.no s hg d k;simp[this])⟩
 | some v =>
  obtain⟨d,cs,b,e,j,i⟩:=h.yes s v hg;refine .inr ⟨d,cs,by rw[j],i,b,?_⟩;cases hf:l.find? (λ c=>decide (c.nm=s)) with
  | none=>exact absurd (cF.1 hf d b) (by simp[e])
  | some x =>
   have g:=cG hf;rw[decide_eq_true_iff] at g;have:=Cb (f:=aQ.nm) h.one (cH hf) b (by rw[g,e]);subst this;rfl
theorem IQ (L:List aG) (f:List aQ) (jl jv:List (ByteArray × Value)) (m1 t m3 m4 S B:Nat) (a:List oN) (AL:Option Addr) (cl i:Nat) (hi:i<a.length) (w:World) (hS:ah w S 168 #[.map (some m1),.map (some t),.map (some m3),.map (some m4)]) (hw:MS w B m1 t jl jv L f) (hL:xW w B AL a) (hB:B<=w.heap.size) :
  IE 78 #[b6 (some ⟨S,0,none⟩),b5 AL a.length cl,b2 b3 (i:Nat)] w (b2 b3 (lJ f (a.take i) a[i])):=by
 have SV:=qh hw;have G:=qh (ca hL hB);have ax:=hL.1;unfold maxLen at ax;obtain⟨ad,ci,rfl,hb,ae,j⟩:=hL.at_ hi;obtain⟨b,O⟩:=af (a[i]);rw[O] at ae ⊢;have a6:=qh O;have HI:=qh hi;obtain⟨⟨F,u,A2,c2,rfl,Z,al⟩,Y,aa,T⟩:=ae;have A:=qh (ca Y (ca aa (ca T (ca Z al))));obtain⟨kC,kT,nZ⟩:=IC j;have HN:=qh (UL hw.nn b.nm);have ay:(0:Int)<=(i:Nat):=by omega
 have aL:(i:Int)<(a.length:Nat):=by omega
 have a3:=hS.lt;clear hw hL hB j O Y aa T  Z al hb;go_enter Tryz.func78,Tryz.ntmps78;go_upto_region 2 with (fail);obtain⟨W,hW⟩:=aC ((w.alloc (b7 #[b4 b.nm,b5 F b.row.length u,b5 A2 b.nums.length c2] 174 (0,0))));have q:IY w W:=by rw[hW];exact ((Below.refl _ w).alloc (ce _) _)
 have B0:ah W (w.heap.size) 174 #[b4 b.nm,b5 F b.row.length u,b5 A2 b.nums.length c2]:=by
  rw[hW];have:=ah.new w 174 #[b4 b.nm,b5 F b.row.length u,b5 A2 b.nums.length c2];exact this
 have ap:W.heap.size=w.heap.size+1:=by rw[hW];simp
 rw[<- hW];have B1:=B0;have B0:ah W S 168 #[.map (some m1),.map (some t),.map (some m3),.map (some m4)]:=hS.below q hS.lt;have z:W.cell? ⟨S,1,none⟩=some (.map (some t)):=B0.cell 1;have XO:W.cell? ⟨w.heap.size,0,none⟩=some (b4 b.nm):=B1.cell 0;have Kw:=qh (SV.o.n.below q SV.o.n.lt);have U:=qh B1;clear hW ap B1  kC kT nZ;rcases HN.o with ⟨hg,hf⟩ | ⟨d,ds,hg,hd,a4,hf⟩
 .skip
  have s:∀ w',IY W w'->(co 160 (.map (some t)) (b4 b.nm) true).run Tryz.prog w' = .ok (.tuple #[.agg #[b4 ⟨#[]⟩,b5 none 0 0],b9 false]) w':=λ w' n=>by
   have h:=(Kw.o.below n Kw.o.lt).look Tryz.underlying160 (oM w') A.o.1;rw[hg] at h;exact h
  have Q:=qh s;have HF:=qh hf;have P:=Q.o W (Below.refl _ _);have g:=Below.refl W.heap.size W;have r:=qh (λ w' (E:IY W w')=>ca (Below.cell_of E z) (ca (Below.cell_of E XO) (ca (Q.o w' E) E)));clear s hf hg;go_region_held3 (λ w'=>w'.cell? ⟨S,1,none⟩=some (.map (some t))/\w'.cell? ⟨w.heap.size,0,none⟩=some (b4 b.nm)/\(co 160 (.map (some t)) (b4 b.nm) true).run Tryz.prog w' = .ok (.tuple #[.agg #[b4 ⟨#[]⟩,b5 none 0 0],b9 false]) w'/\IY W w') (first | exact r.o _ g.drew | exact r.o _ (g.alloc (ce _) _) | exact r.o _ (g.alloc (ce _) _).drew | exact r.o _ (g.drew.alloc (ce _) _) | exact r.o _ g) (fail)
  all_goals
   obtain⟨W2,l⟩:=aC ((W.alloc (b7 #[b4 ⟨#[]⟩,b5 none 0 0] 184 (0,0))).drew);have m:IY W W2:=l▸((Below.refl _ W).alloc (ce _) _).drew;have c:=q.trans (m.mono q.size);have B2:ah W2 W.heap.size 184 #[b4 ⟨#[]⟩,b5 none 0 0]:=l▸(ah.new W _ _).drew;rw[<- l];clear l P r Q z;have B0:=B0.below m B0.lt;have jA:=qh (show lJ f (a.take i) b=5 by unfold lJ;rw[HF.o]);clear m B2 B0;go_wp2_with (fail);go_ret;exact⟨ag (by rw[jA.o]),c⟩
 .obtain⟨⟨A',c',rfl,wK,a5⟩,a2,ac,ar⟩:=hd;have nR:=qh ac;clear wK ac ar;have s:∀ w',IY W w'->(co 160 (.map (some t)) (b4 b.nm) true).run Tryz.prog w' = .ok (.tuple #[.agg #[b4 d.nm,b5 A' d.loops.length c'],b9 true]) w':=λ w' n=>by
   have h:=(Kw.o.below n Kw.o.lt).look Tryz.underlying160 (oM w') A.o.1;rw[hg] at h;exact h
  have Q:=qh s;have HF:=qh hf;have P:=Q.o W (Below.refl _ _);have g:=Below.refl W.heap.size W;have r:=qh (λ w' (E:IY W w')=>ca (Below.cell_of E z) (ca (Below.cell_of E XO) (ca (Q.o w' E) E)));clear s hf hg;go_region_held3 (λ w'=>w'.cell? ⟨S,1,none⟩=some (.map (some t))/\w'.cell? ⟨w.heap.size,0,none⟩=some (b4 b.nm)/\(co 160 (.map (some t)) (b4 b.nm) true).run Tryz.prog w' = .ok (.tuple #[.agg #[b4 d.nm,b5 A' d.loops.length c'],b9 true]) w'/\IY W w') (first | exact r.o _ g.drew | exact r.o _ (g.alloc (ce _) _) | exact r.o _ (g.alloc (ce _) _).drew | exact r.o _ (g.drew.alloc (ce _) _) | exact r.o _ g) (fail)
  all_goals
   obtain⟨W2,l⟩:=aC ((W.alloc (b7 #[b4 d.nm,b5 A' d.loops.length c'] 184 (0,0))).drew);have m:IY W W2:=l▸((Below.refl _ W).alloc (ce _) _).drew;have c:=q.trans (m.mono q.size);have B2:ah W2 W.heap.size 184 #[b4 d.nm,b5 A' d.loops.length c']:=l▸(ah.new W _ _).drew;rw[<- l];clear l P r Q z;have B0:=B0.below m B0.lt;have B1:=U.o.below m U.o.lt;have am:Below B w W2:=c.mono G.o.2;clear m;obtain⟨f1,N⟩:=af (qQ b.row d.loops.length);have wL:=qh N;have UK:=qh (Aq b.row d.loops.length F u B W2 nR.o A.o.2.1 (A.o.2.2.2.1.below am));rw[N] at UK;have a7:W2.cell? ⟨w.heap.size,0,none⟩=some (b4 b.nm):=B1.cell 0;have a1:W2.cell? ⟨w.heap.size,1,none⟩=some (b5 F b.row.length u):=B1.cell 1;have aR:W2.cell? ⟨w.heap.size,2,none⟩=some (b5 A2 b.nums.length c2):=B1.cell 2;have dl:W2.cell? ⟨W.heap.size,1,none⟩=some (b5 A' d.loops.length c'):=B2.cell 1
   skip
   clear N XO;go_wp2_with fail;refine UK.o.mono ?_;rintro en w' ⟨rfl,rfl⟩;by_cases h0:f1=0;rotate_left
   .have bg:(f1 != 0)=true:=by simpa using h0
    have C:=qh (show lJ f (a.take i) b=f1 by unfold lJ;rw[HF.o];show (if qQ b.row d.loops.length≠0 then _ else _)=_;rw[wL.o,if_pos h0]);clear h0;go_wp2_with fail;go_ret;exact⟨ag (by rw[C.o]),c⟩
   subst h0;clear UK B1 B2 dl;have R:=qh (show lJ f (a.take i) b=if wX none b.nums≠0 then wX none b.nums else (match (a.take i).getLast? with | none=>0 | some p=>dI b.nm b.row p.nm p.row) by unfold lJ;rw[HF.o];show (if qQ b.row d.loops.length≠0 then _ else _)=_;rw[wL.o,if_neg (by decide)];rfl);have aD:b.nums.length<=9223372036854775807:=A.o.2.2.1;go_wp2_with fail;have aw:=qh (A.o.2.2.2.2.below am)
   go_loop [42,11,12] (λ i _ _=>∃ k:Nat,k<=b.nums.length/\i = b2 b3 k/\Hid (wX none b.nums=wX (FD b.nums k) (b.nums.drop k))) (λ i _ _=>b.nums.length - (intOf i).toNat)
   case atStart=>exact⟨0,cA _,rfl,qh rfl⟩
   case round =>
    obtain⟨k,hk,rfl,HD⟩:=hrel;by_cases hlt:k<b.nums.length
    .obtain⟨X,rfl,-,FN⟩:=aw.o.2 (by omega);have n1:W2.cell? (X.add k)=some (b2 b3 b.nums[k]):=FN k _ (by rw[bI,cI,cj hlt];rfl);have lq:=qh (HD.o.trans (QF b.nums k hlt));obtain⟨x,D⟩:=af (b.nums[k]);rw[D] at n1 lq;obtain⟨o,ho⟩:=af (aN x 1 999);have HO:=qh ho;have aW:=qh hlt;have aE:(k:Int)<(b.nums.length:Nat):=by omega
     have a0:(0:Int)<=(k:Nat):=by omega
     cases o;rotate_left
     .have C:=qh (show lJ f (a.take i) b=1 by have h:=lq.o.trans (if_pos (show dP x=true from HO.o));rw[R.o,h,if_pos (by decide)]);clear FN D;go_wp2_with (go_at_call 121;refine (aX _ _ _ _).mono ?_;rintro e w' ⟨rfl,rfl⟩);go_ret;exact⟨ag (by rw[C.o]),c⟩
     .have v:=qh (lq.o.trans (if_neg (by show ¬ aN x 1 999=true;rw[HO.o];decide)));by_cases hz:k=0
      .have H:=qh (v.o.trans (if_neg (λ h=>by omega)));have av:¬ (0:Int)<(k:Nat):=by omega
       have ao:¬ 0<k:=by omega
       clear FN D hz;go_wp2_with (go_at_call 121;refine (aX _ _ _ _).mono ?_;rintro e w' ⟨rfl,rfl⟩)
       go_round
       case rel=>exact⟨k+1,aW.o,by go_num,H⟩
       case measure =>
        have:=aW.o;simp[intOf];omega
      .have I:k - 1<b.nums.length:=by omega
       have n2:W2.cell? (X.add (k - 1))=some (b2 b3 b.nums[k - 1]):=FN (k - 1) _ (by rw[bI,cI,cj I];rfl);obtain⟨y,M⟩:=af (b.nums[k - 1]);have V:b.nums.getD (k - 1) 0=y:=by rw[cJ,cj I,<- M];rfl
       rw[M] at n2;rw[V] at v;have av:(0:Int)<(k:Nat):=by omega
       have ao:0<k:=by omega
       have i0:IntKind.i64.wrap ((k:Int) - 1)=(k:Int) - 1:=cu _ (by have:=A.o.2.2.1;unfold maxLen at this;omega);have i1:((k:Int) - 1).toNat=k - 1:=by omega
       have i2:(0:Int)<=(k:Int) - 1:=by omega
       have i3:(k:Int) - 1<(b.nums.length:Nat):=by omega
       clear FN D M V I hz;by_cases hxy:x<=y
       .have C:=qh (show lJ f (a.take i) b=7 by have h:=v.o.trans (if_pos ⟨by omega,hxy⟩);rw[R.o,h,if_pos (by decide)]);go_wp2_with (go_at_call 121;refine (aX _ _ _ _).mono ?_;rintro e w' ⟨rfl,rfl⟩);go_ret;exact⟨ag (by rw[C.o]),c⟩
       .have H:=qh (v.o.trans (if_neg (λ h=>hxy h.2)));go_wp2_with (go_at_call 121;refine (aX _ _ _ _).mono ?_;rintro e w' ⟨rfl,rfl⟩)
        go_round
        case rel=>exact⟨k+1,aW.o,by go_num,H⟩
        case measure =>
         have:=aW.o;simp[intOf];omega
    .have HQ:=qh (show lJ f (a.take i) b=(match (a.take i).getLast? with | none=>0 | some p=>dI b.nm b.row p.nm p.row) by rw[R.o,HD.o,cv (by omega),wX,if_neg (by decide)]);clear HD;by_cases h0:i=0
     .have bg:((i:Int) == 0)=true:=by simp;omega
      have C:=qh (show lJ f (a.take i) b=0 by rw[HQ.o,h0];rfl);clear h0;go_wp2_with fail;go_ret;exact⟨ag (by rw[C.o]),c⟩
     .have bg:((i:Int) == 0)=false:=by simp;omega
      have K:i - 1<a.length:=by omega
      obtain⟨aM,pi,Ej,-,ak,qp⟩:=(G.o.1.keep (c.mono G.o.2)).at_ K;injection Ej with Ej;subst Ej;obtain⟨p,J⟩:=af (a[i - 1]);rw[J] at ak;have C:=qh (show lJ f (a.take i) b=dI b.nm b.row p.nm p.row by
       rw[HQ.o,show (a.take i).getLast?=some p by rw[cz,ct,cq,if_pos (by omega),show min i a.length - 1=i - 1 by omega,cj K,J]])
      obtain⟨⟨A5,c5,A6,c6,rfl,NV,XP⟩,aq,ab,sD⟩:=ak;obtain⟨Iy,WL⟩:=H7 qp;have i0:IntKind.i64.wrap ((i:Int) - 1)=(i:Int) - 1:=cu _ (by omega);have i1:((i:Int) - 1).toNat=i - 1:=by omega
      have i2:(0:Int)<=(i:Int) - 1:=by omega
      have i3:(i:Int) - 1<(a.length:Nat):=by omega
      have k1:∀ w',IY W2 w'->IE 125 #[b4 b.nm,b5 F b.row.length u,b4 p.nm,b5 A5 p.row.length c5] w' (b2 b3 (dI b.nm b.row p.nm p.row)):=λ w' n =>
       wY b.nm p.nm b.row p.row F A5 u c5 B w' A.o.2.1 ab (A.o.2.2.2.1.below ((c.mono G.o.2).trans (n.mono (cf G.o.2 c.size)))) (NV.below (n.mono (cf G.o.2 c.size))) (cf (cf G.o.2 c.size) n.size)
      have K1:=qh (Later.call k1);have q0:=Later.cell Iy;have q1:=Later.cell WL;have q2:=Later.cell (show W2.cell? ⟨w.heap.size,0,none⟩=some (b4 b.nm) from by assumption);have q3:=Later.cell (show W2.cell? ⟨w.heap.size,1,none⟩=some (b5 F b.row.length u) from by assumption);clear k1 qp J NV XP aq ab sD  h0 K Iy WL;go_upto_region 18 with (fail);refine aF (by kernel_rfl) (by kernel_rfl) ?_
      repeat (go_big_quiet_step (with_reducible exact K1.o _))
      refine wpQuiet_nil ?_;intro W9 an;have eP:=dY an;clear an;go_wp2_with fail;go_ret;exact⟨ag (by rw[C.o]),c.trans (eP.mono c.size)⟩
structure SiR (en:Ending) (w w':World) (B:Nat) (cells:List aG) (loops:List aQ) (bounds:List gm) (rows:List oN):Prop where
 ex:∃ p,en = .returned (.tuple #[b6 p,b2 b3 (jH cells loops bounds rows)])/\(jH cells loops bounds rows=0->∃ gs m1 m2 m3 m4 jl jv zV Iw,p=some ⟨gs,0,none⟩/\uu w' B gs m1 m2 m3 m4 jl jv zV Iw cells loops bounds rows/\w.heap.size<=m3/\w.heap.size<=m4/\w.heap.size<=gs)
 hb:IY w w'
theorem SiR.bad {d:Ending} {w w':World} {B:Nat} {c:List aG} {b:List aQ} {a:List gm} {rows:List oN} (h:jH c b a rows≠0) (e:d = .returned (.tuple #[b6 none,b2 b3 (jH c b a rows)])) (g:IY w w'):SiR d w w' B c b a rows:=
 ⟨⟨none,e,λ f=>absurd f h⟩,g⟩
theorem NW (c:List aG) (a:List aQ) (bounds:List gm) (rows:List oN) (AC AN AB AR:Option Addr) (cc cn cb cr B:Nat) (w:World) (hC:bU w B AC c) (hN:dX w B AN a) (ay:su w B AB bounds) (aq:xW w B AR rows) (bl:∀ d∈c,d.loops.length<=1048576) (Cj:∀ d∈a,d.loops.length<=1048576) (hB:B<=w.heap.size) (aE:DK w) :
  Calls Tryz.prog 35 #[.agg #[b5 AC c.length cc,b5 AN a.length cn,b5 AB bounds.length cb,b5 AR rows.length cr]] w λ en w'=>SiR en w w' B c a bounds rows:=by
 have G:=qh (ca hC (ca hN (ca ay (ca aq hB))));have bh:=qh ay;have bd:=qh aq;have bq:=qh bl;have MV:=qh Cj;have bj:=qh aE;have br:=ay.1;have bS:=aq.1;unfold maxLen at br bS;have bs:=@run_makeMap Tryz.prog;clear hC hN ay aq bl Cj hB aE;go_enter Tryz.func35,Tryz.ntmps35;go_upto_region 1 with (fail);obtain⟨W,hW⟩:=aC ((w.alloc (b7 #[b5 AC c.length cc,b5 AN a.length cn,b5 AB bounds.length cb,b5 AR rows.length cr] 45 (0,0))));have ae:IY w W:=by rw[hW];exact ((Below.refl _ w).alloc (ce _) _)
 have B0:ah W (w.heap.size) 45 #[b5 AC c.length cc,b5 AN a.length cn,b5 AB bounds.length cb,b5 AR rows.length cr]:=by
  rw[hW];have:=ah.new w 45 #[b5 AC c.length cc,b5 AN a.length cn,b5 AB bounds.length cb,b5 AR rows.length cr];exact this
 have bD:W.heap.size=w.heap.size+1:=by rw[hW];simp
 rw[<- hW];obtain⟨a3,BP,aL,a7⟩:=ah.c4 B0;clear hW bD;have bx:=cf G.o.2.2.2.2 ae.size;have bf:=qh (DI c a AC cc AN cn B W (G.o.1.keep (ae.mono G.o.2.2.2.2)) (G.o.2.1.keep (ae.mono G.o.2.2.2.2)) bx);go_wp2_with fail;refine bf.o.mono ?_;rintro en W1 ⟨⟨f,rfl,hf,aD⟩,av⟩;have XI:=qh aD;have T:=qh hf.symm;have bQ:=ae.trans (av.mono ae.size);have b0:=av.size;have B0:=B0.below av B0.lt;clear hf aD bf a3 BP aL a7 av;go_upto_region 2 with (fail);obtain⟨W2,V⟩:=aC (W1.alloc (b7 #[.map (some (W.heap.size+1)),.map (some (W.heap.size+1+1))] 162 (0,0)));have ax:IY W1 W2:=V▸(Below.refl _ W1).alloc (ce _) _;have B2:ah W2 W1.heap.size 162 #[.map (some (W.heap.size+1)),.map (some (W.heap.size+1+1))]:=V▸ah.new W1 _ _;have z:=bQ.trans (ax.mono bQ.size);have B0:=B0.below ax B0.lt;have b1:W1.heap.size<W2.heap.size:=by rw[V];simp
 rw[<- V];by_cases h0:f=0;rotate_left
 .have bg:(f != 0)=true:=by simpa using h0
  have L:=qh (show jH c a bounds rows=f by unfold jH;rw[T.o,if_pos h0]);have H0:=qh h0;clear h0 V;go_wp2_with fail;go_ret2;exact SiR.bad (by rw[L.o];exact H0.o) (by rw[L.o];try rfl) z
 subst h0;obtain⟨Y,U,a6,A,be,bo⟩:=XI.o rfl;have bR:=qh (show MS W2 B (W.heap.size+1) (W.heap.size+1+1) Y U c a from MS.keep ⟨a6,be,A,bo⟩ ax (cf G.o.2.2.2.2 bQ.size));have XQ:=qh (ca a6.lt A.lt);have bi:=qh (XM T.o);clear a6 A be bo XI V;obtain⟨a3,BP,aL,a7⟩:=ah.c4 B0;obtain⟨Fq,Fv⟩:=ah.c2 B2;by_cases agZ:20000<bounds.length
 .have bE:(20000:Int)<(bounds.length:Nat):=by omega
  have L:=qh (show jH c a bounds rows=2 by unfold jH;rw[T.o,if_neg (by decide),if_pos (.inl agZ)]);go_wp2_with fail;go_ret2;exact SiR.bad (by rw[L.o];decide) (by rw[L.o];try rfl) z
 have bE:¬ (20000:Int)<(bounds.length:Nat):=by omega
 by_cases ag0:20000<rows.length
 .have bL:(20000:Int)<(rows.length:Nat):=by omega
  have L:=qh (show jH c a bounds rows=2 by unfold jH;rw[T.o,if_neg (by decide),if_pos (.inr ag0)]);go_wp2_with fail;go_ret2;exact SiR.bad (by rw[L.o];decide) (by rw[L.o];try rfl) z
 have bL:¬ (20000:Int)<(rows.length:Nat):=by omega
 have S:=qh (show ¬ (20000<bounds.length\/20000<rows.length) by omega);clear agZ ag0 ax;go_upto_region 7 with (fail);have aw:=B0.lt;obtain⟨W5,zk⟩:=aC ((W2.alloc (.map #[] 0)).alloc (.map #[] 0));have s5:W5.heap.size=W2.heap.size+1+1:=by rw[zk];simp
 have a9:IY W2 W5:=zk▸((Below.refl _ W2).alloc (ce _) _).alloc (by simp) _;obtain⟨W6,yC⟩:=aC (W5.alloc (b7 #[.map (some (W.heap.size+1)),.map (some (W.heap.size+1+1)),.map (some W2.heap.size),.map (some (W2.heap.size+1))] 168 (0,0)));have bm:IY W5 W6:=yC▸(Below.refl _ W5).alloc (ce _) _;have ar:=a9.trans (bm.mono a9.size);have k1:aP W6 W2.heap.size []:=by rw[yC,zk];exact ((aP.made W2).alloc _).alloc _
 have k2:aP W6 (W2.heap.size+1) []:=by
  have h:=aP.made (W2.alloc (.map #[] 0));rw[World.size_alloc] at h;rw[yC,zk];exact h.alloc _
 have k3:ah W6 (W2.heap.size+1+1) 168 #[.map (some (W.heap.size+1)),.map (some (W.heap.size+1+1)),.map (some W2.heap.size),.map (some (W2.heap.size+1))]:=by
  have h:=ah.new W5 168 #[.map (some (W.heap.size+1)),.map (some (W.heap.size+1+1)),.map (some W2.heap.size),.map (some (W2.heap.size+1))];rw[<- yC,s5] at h;exact h
 have KJ:=z.trans (ar.mono z.size);have I:=qh (show uu W6 B (W2.heap.size+1+1) (W.heap.size+1) (W.heap.size+1+1) W2.heap.size (W2.heap.size+1) Y U [] [] c a [] [] from
  ⟨k3,bR.o.keep ar (cf G.o.2.2.2.2 z.size),k1,k2,⟨.nil⟩,⟨.nil⟩,by
   have h1:=XQ.o.1;have h2:=XQ.o.2;have h3:=G.o.2.2.2.2;refine⟨by omega,by omega,by omega,by omega,by omega,by omega,by omega,by omega,by omega,cf h3 KJ.size⟩⟩)
 have D:=qh (B0.below ar B0.lt);have bA:W6.cell? ⟨w.heap.size,2,none⟩=some (b5 AB bounds.length cb):=D.o.cell 2;rw[<- zk,<- yC];clear zk yC k1 k2 k3 a9 bm ar s5 B0 B2 a3 BP aL a7 Fq Fv bs;go_wp2_with fail;clear bA;go_loopw [42,7,8,9] (λ i _ _ _ wr=>∃ (k:Nat) (zV:List (ByteArray × Value)),k<=bounds.length/\i = b2 b3 k/\Hid (uu wr B (W2.heap.size+1+1) (W.heap.size+1) (W.heap.size+1+1) W2.heap.size (W2.heap.size+1) Y U zV [] c a (bounds.take k) [])/\Hid (ah wr w.heap.size 45 #[b5 AC c.length cc,b5 AN a.length cn,b5 AB bounds.length cb,b5 AR rows.length cr])/\Hid (aU (gW c) [] bounds=aU (gW c) (bounds.take k) (bounds.drop k))/\IY w wr) (λ i _ _ _ _=>bounds.length - (intOf i).toNat)
 case atStart=>exact⟨0,[],cA _,rfl,I,D,qh rfl,KJ⟩
 case round =>
  clear I D KJ;obtain⟨k,zV,F,rfl,I,D,HD,C⟩:=hrel;have iT:=C.size;have bb:=C.mono G.o.2.2.2.2;have p:=D.o;have vM:=qh I.o.m3m.lt;have bp:wr.cell? ⟨w.heap.size,2,none⟩=some (b5 AB bounds.length cb):=p.cell 2;by_cases hlt:k<bounds.length
  .obtain⟨ad,ci,aR,m,P,j⟩:=(bh.o.keep bb).at_ hlt;subst aR;obtain⟨b,Q⟩:=af (bounds[k]);have lq:=qh (DN (gW c) bounds k hlt);have QG:=qh (λ w' (h1:uu w' B (W2.heap.size+1+1) (W.heap.size+1) (W.heap.size+1+1) W2.heap.size (W2.heap.size+1) Y U zV [] c a (bounds.take k) []) (h2:Below B w w')=>FM c a Y U (W.heap.size+1) (W.heap.size+1+1) W2.heap.size (W2.heap.size+1) (W2.heap.size+1+1) B bounds (some ad) cb k hlt w' h1.blk h1.ty (bh.o.keep h2) h1.ne.2.2.2.2.2.2.2.2.2);rw[Q] at P lq QG;have ba:=qh Q;have ab:=P;obtain⟨⟨v,u,x,y,rfl,aa,am⟩,a0,a2,Z,bN⟩:=P;have bk:=qh ab;have xX:=qh (ca aa (ca am Z));have aW:=qh hlt;have kC:wr.cell? (ad.add (k*7))=some (b4 b.nm):=j 0 _ rfl;have kT:wr.cell? ⟨(ad.add (k*7)).block,(ad.add (k*7)).off+1,none⟩=some (b5 v b.row.length u):=j 1 _ rfl;have nZ:wr.cell? ⟨(ad.add (k*7)).block,(ad.add (k*7)).off+2,none⟩=some (b2 b3 b.v.k):=j 2 _ rfl;have tV:wr.cell? ⟨(ad.add (k*7)).block,(ad.add (k*7)).off+3,none⟩=some (b2 b3 b.v.n):=j 3 _ rfl;have tX:wr.cell? ⟨(ad.add (k*7)).block,(ad.add (k*7)).off+4,none⟩=some (b4 b.v.s):=j 4 _ rfl;have tY:wr.cell? ⟨(ad.add (k*7)).block,(ad.add (k*7)).off+5,none⟩=some (b5 x b.v.l.length y):=j 5 _ rfl;have tZ:wr.cell? ⟨(ad.add (k*7)).block,(ad.add (k*7)).off+6,none⟩=some (b9 b.asked):=j 6 _ rfl;have bK:(0:Int)<=(k:Nat):=by omega
   have bw:(k:Int)<(bounds.length:Nat):=by omega
   clear j Q ab aa am a0 a2 Z bN m;go_upto_region 10 with (fail);obtain⟨W3,E⟩:=aC (wr.alloc (b7 #[b4 b.nm,b5 v b.row.length u,b2 b3 b.v.k,b2 b3 b.v.n,b4 b.v.s,b5 x b.v.l.length y,b9 b.asked] 170 (0,0)));have q:IY wr W3:=E▸(Below.refl _ wr).alloc (ce _) _;have s:ah W3 wr.heap.size 170 #[b4 b.nm,b5 v b.row.length u,b2 b3 b.v.k,b2 b3 b.v.n,b4 b.v.s,b5 x b.v.l.length y,b9 b.asked]:=E▸ah.new wr _ _;rw[<- E];clear E kC kT nZ tV tX tY tZ bp;have p:=p.below q p.lt;have bO:W3.cell? ⟨w.heap.size,2,none⟩=some (b5 (some ad) bounds.length cb):=p.cell 2;have QH:=qh (I.o.keep q);have t:=C.trans (q.mono iT);obtain⟨f1,O⟩:=af (gW c (bounds.take k) b);have wL:=qh O;have qO:=qh (QG.o W3 QH.o (t.mono G.o.2.2.2.2));rw[O] at qO lq;clear O;go_wp2_with fail;refine qO.o.mono ?_;rintro en W4 ⟨rfl,n⟩;have H:=t.trans (n.mono t.size);have p:=p.below n p.lt;have s:=s.below n s.lt;have X:=qh (QH.o.keep n);have an:=qh (show Below B wr W4 from (q.trans (n.mono q.size)).mono (cf G.o.2.2.2.2 iT));clear n q bO qO QG QH I;by_cases h0:f1=0;rotate_left
   .have bg:(f1 != 0)=true:=by simpa using h0
    have L:=qh (show jH c a bounds rows=f1 by unfold jH;rw[T.o,if_neg (by decide),if_neg S.o,HD.o,lq.o,if_pos h0,if_pos h0]);have H0:=qh h0;clear h0 s p;go_wp2_with fail;go_ret2;exact SiR.bad (by rw[L.o];exact H0.o) (by rw[L.o];try rfl) H
   subst h0;obtain⟨ak,al,UM⟩:=XN bi.o.1 bq.o wL.o;have K:(FI b).size<=100000000:=by
    have h:=qW b.nm.data.toList b.row UM;have h2:b.nm.data.toList.length<=16:=by simpa using ak
    have h3:(FI b).size=(iJ b.nm.data.toList b.row).length:=by simp[FI,ByteArray.size]
    omega
   have aM:=qh K;have bB:=H.mono G.o.2.2.2.2;have R:=cf G.o.2.2.2.2 H.size;have K1:=qh (show ∀ w',IY W4 w'->Calls Tryz.prog 77 #[b4 b.nm,b5 v b.row.length u] w' λ en bc=>en = .returned (b4 (FI b))/\IY W4 bc from λ w' m =>
    (FH b.nm b.row v u B w' (by omega) al UM (xX.o.1.below ((Below.refl B wr).trans (show Below B wr w' from (show Below B wr W4 from an.o).trans (m.mono R)))) (cf R m.size) (bj.o.below (H.trans (m.mono H.size)))).mono λ _ _ ⟨he,F⟩=>⟨he,m.trans (F.mono m.size)⟩)
   have XR:=qh (show ∀ r,IY W4 r->∃ w2,(cK 165 (.map (some W2.heap.size)) (b4 (FI b)) (.agg #[b4 b.nm,b5 v b.row.length u,b2 b3 b.v.k,b2 b3 b.v.n,b4 b.v.s,b5 x b.v.l.length y,b9 b.asked])).run Tryz.prog r = .ok () w2/\aP w2 W2.heap.size ((FI b,.agg #[b4 b.nm,b5 v b.row.length u,b2 b3 b.v.k,b2 b3 b.v.n,b4 b.v.s,b5 x b.v.l.length y,b9 b.asked]) :: zV)/\r.grownBy w2 (some W2.heap.size) from λ r m =>
    (X.o.keep m).m3m.put Tryz.underlying165 (by have h:=X.o.kb.len;rw[h,cq];have:=S.o;unfold maxLen;omega) (by have:=aM.o;unfold maxLen;omega) _)
   have zz:W4.cell? ⟨(W2.heap.size+1+1),2,none⟩=some (.map (some W2.heap.size)):=X.o.blk.cell 2;have ac:(W2.heap.size+1+1)≠W2.heap.size:=X.o.ne.1;have y0:W4.cell? ⟨wr.heap.size,0,none⟩=some (b4 b.nm):=s.cell 0;have y1:W4.cell? ⟨wr.heap.size,1,none⟩=some (b5 v b.row.length u):=s.cell 1;have y2:W4.cell? ⟨wr.heap.size,2,none⟩=some (b2 b3 b.v.k):=s.cell 2;have y3:W4.cell? ⟨wr.heap.size,3,none⟩=some (b2 b3 b.v.n):=s.cell 3;have y4:W4.cell? ⟨wr.heap.size,4,none⟩=some (b4 b.v.s):=s.cell 4;have y5:W4.cell? ⟨wr.heap.size,5,none⟩=some (b5 x b.v.l.length y):=s.cell 5;have y6:W4.cell? ⟨wr.heap.size,6,none⟩=some (b9 b.asked):=s.cell 6;have a8:W2.heap.size<wr.heap.size:=vM.o;have HS:=qh (show ∀ w',IY W4 w'->w'.cell? ⟨(W2.heap.size+1+1),2,none⟩=some (.map (some W2.heap.size))/\w'.cell? ⟨wr.heap.size,0,none⟩=some (b4 b.nm)/\w'.cell? ⟨wr.heap.size,1,none⟩=some (b5 v b.row.length u)/\w'.cell? ⟨wr.heap.size,2,none⟩=some (b2 b3 b.v.k)/\w'.cell? ⟨wr.heap.size,3,none⟩=some (b2 b3 b.v.n)/\w'.cell? ⟨wr.heap.size,4,none⟩=some (b4 b.v.s)/\w'.cell? ⟨wr.heap.size,5,none⟩=some (b5 x b.v.l.length y)/\w'.cell? ⟨wr.heap.size,6,none⟩=some (b9 b.asked) from λ w' m=>⟨Below.cell_of m zz,Below.cell_of m y0,Below.cell_of m y1,Below.cell_of m y2,Below.cell_of m y3,Below.cell_of m y4,Below.cell_of m y5,Below.cell_of m y6⟩);have N:=qh (show ∀ r w2,IY W4 r->r.grownBy w2 (some W2.heap.size)->w2.cell? ⟨(W2.heap.size+1+1),2,none⟩=some (.map (some W2.heap.size))/\w2.cell? ⟨wr.heap.size,0,none⟩=some (b4 b.nm)/\w2.cell? ⟨wr.heap.size,1,none⟩=some (b5 v b.row.length u)/\w2.cell? ⟨wr.heap.size,2,none⟩=some (b2 b3 b.v.k)/\w2.cell? ⟨wr.heap.size,3,none⟩=some (b2 b3 b.v.n)/\w2.cell? ⟨wr.heap.size,4,none⟩=some (b4 b.v.s)/\w2.cell? ⟨wr.heap.size,5,none⟩=some (b5 x b.v.l.length y)/\w2.cell? ⟨wr.heap.size,6,none⟩=some (b9 b.asked) from λ r w2 m J=>by
    have F:=HS.o r m;have FO:=cw s.lt m.size;have a1:=cw X.o.blk.lt m.size;refine⟨(J.cell_far _ a1 (λ e=>ac (ch e))).trans F.1,(J.cell_far _ FO (λ e=>(by have h:wr.heap.size=W2.heap.size:=ch e;omega))).trans F.2.1,(J.cell_far _ FO (λ e=>(by have h:wr.heap.size=W2.heap.size:=ch e;omega))).trans F.2.2.1,(J.cell_far _ FO (λ e=>(by have h:wr.heap.size=W2.heap.size:=ch e;omega))).trans F.2.2.2.1,(J.cell_far _ FO (λ e=>(by have h:wr.heap.size=W2.heap.size:=ch e;omega))).trans F.2.2.2.2.1,(J.cell_far _ FO (λ e=>(by have h:wr.heap.size=W2.heap.size:=ch e;omega))).trans F.2.2.2.2.2.1,(J.cell_far _ FO (λ e=>(by have h:wr.heap.size=W2.heap.size:=ch e;omega))).trans F.2.2.2.2.2.2.1,(J.cell_far _ FO (λ e=>(by have h:wr.heap.size=W2.heap.size:=ch e;omega))).trans F.2.2.2.2.2.2.2⟩)
   have M:IY W4 W4:=Below.refl _ _;clear zz y0 y1 y2 y3 y4 y5 y6;go_upto_region 13 with (fail);go_region_held3 (λ w'=>w'.cell? ⟨(W2.heap.size+1+1),2,none⟩=some (.map (some W2.heap.size))/\w'.cell? ⟨wr.heap.size,0,none⟩=some (b4 b.nm)/\w'.cell? ⟨wr.heap.size,1,none⟩=some (b5 v b.row.length u)/\w'.cell? ⟨wr.heap.size,2,none⟩=some (b2 b3 b.v.k)/\w'.cell? ⟨wr.heap.size,3,none⟩=some (b2 b3 b.v.n)/\w'.cell? ⟨wr.heap.size,4,none⟩=some (b4 b.v.s)/\w'.cell? ⟨wr.heap.size,5,none⟩=some (b5 x b.v.l.length y)/\w'.cell? ⟨wr.heap.size,6,none⟩=some (b9 b.asked))
    (first | exact HS.o _ M.drew | exact HS.o _ l | exact N.o _ _ l o | exact N.o _ _ l o)
    (first | (go_at_call 77;(with_reducible refine (K1.o _ M.drew).mono ?_);rintro e1 r ⟨rfl,l⟩;obtain⟨w2,ap,A,o⟩:=XR.o r l))
   all_goals
    have zl:=qh (show Below B wr r from an.o.trans (l.mono R));have e1:bounds.take k ++ [b]=bounds.take (k+1):=by rw[cL aW.o,ba.o]
    have a4:=qh (show uu w2 B (W2.heap.size+1+1) (W.heap.size+1) (W.heap.size+1+1) W2.heap.size (W2.heap.size+1) Y U ((FI b,.agg #[b4 b.nm,b5 v b.row.length u,b2 b3 b.v.k,b2 b3 b.v.n,b4 b.v.s,b5 x b.v.l.length y,b9 b.asked]) :: zV) [] c a (bounds.take (k+1)) [] from by
     have h:=(X.o.keep l).aj8 o (bk.o.keep zl.o) A;rw[e1] at h;exact h)
    have MX:=qh ((p.below l p.lt).grown o (λ e=>(by have h:w.heap.size=W2.heap.size:=ch e;have:=aw;omega)));have KU:IY w w2:=(H.trans (l.mono H.size)).grown o (cf H.size l.size) (λ g J=>(by have h:W2.heap.size=g:=ch J;have:=aw;omega));have a5:=qh (HD.o.trans (lq.o.trans (if_neg (λ h=>h rfl))));clear e1 M l A o ap HS N K1 XR s p a8 ac K ak al UM;go_wp2_with fail;go_roundw
    case rel=>exact⟨k+1,_,aW.o,by go_num,a4,MX,a5,KU⟩
    case measure =>
     have:=aW.o;simp[intOf];omega
  .have ao:bounds.take k=bounds:=cB (by omega);have HE:=qh (show aU (gW c) [] bounds=0 by rw[HD.o,cv (by omega)];rfl);have I:=qh (show uu wr B (W2.heap.size+1+1) (W.heap.size+1) (W.heap.size+1+1) W2.heap.size (W2.heap.size+1) Y U zV [] c a bounds [] by have h:=I.o;rwa [ao] at h);clear ao HD;have bn:=qh (show jH c a bounds rows=aU (lJ a) [] rows by unfold jH;rw[T.o,if_neg (by decide),if_neg S.o,HE.o,if_neg (by decide)]);have KJ:=C;have bv:wr.cell? ⟨w.heap.size,3,none⟩=some (b5 AR rows.length cr):=p.cell 3;go_upto_region 15 with (fail);go_wp2_with fail;clear bv p vM;go_loopw [69,10,11,12] (λ i _ _ _ wr=>∃ (k:Nat) (Iw:List (ByteArray × Value)),k<=rows.length/\i = b2 b3 k/\Hid (uu wr B (W2.heap.size+1+1) (W.heap.size+1) (W.heap.size+1+1) W2.heap.size (W2.heap.size+1) Y U zV Iw c a bounds (rows.take k))/\Hid (ah wr w.heap.size 45 #[b5 AC c.length cc,b5 AN a.length cn,b5 AB bounds.length cb,b5 AR rows.length cr])/\Hid (aU (lJ a) [] rows=aU (lJ a) (rows.take k) (rows.drop k))/\IY w wr) (λ i _ _ _ _=>rows.length - (intOf i).toNat)
   case atStart=>exact⟨0,[],cA _,rfl,I,D,qh rfl,KJ⟩
   case round =>
    clear I D KJ;obtain⟨k,Iw,F,rfl,I,D,HD,C⟩:=hrel;have iT:=C.size;have bb:=C.mono G.o.2.2.2.2;have p:=D.o;have vM:=qh I.o.m4m.lt;have bt:wr.cell? ⟨w.heap.size,3,none⟩=some (b5 AR rows.length cr):=p.cell 3;by_cases hlt:k<rows.length
    .obtain⟨ad,ci,aR,m,P,j⟩:=(bd.o.keep bb).at_ hlt;subst aR;obtain⟨b,Q⟩:=af (rows[k]);have lq:=qh (DN (lJ a) rows k hlt);have QG:=qh (λ w' (h1:uu w' B (W2.heap.size+1+1) (W.heap.size+1) (W.heap.size+1+1) W2.heap.size (W2.heap.size+1) Y U zV Iw c a bounds (rows.take k)) (h2:Below B w w')=>IQ c a Y U (W.heap.size+1) (W.heap.size+1+1) W2.heap.size (W2.heap.size+1) (W2.heap.size+1+1) B rows (some ad) cr k hlt w' h1.blk h1.ty (bd.o.keep h2) h1.ne.2.2.2.2.2.2.2.2.2);rw[Q] at P lq QG;have ba:=qh Q;have ab:=P;obtain⟨⟨v,u,x,y,rfl,aa,am⟩,a0,a2,Z⟩:=P;have bk:=qh ab;have xX:=qh (ca aa (ca am Z));have aW:=qh hlt;obtain⟨kC,kT,nZ⟩:=IC j;have bK:(0:Int)<=(k:Nat):=by omega
     have bw:(k:Int)<(rows.length:Nat):=by omega
     clear j Q ab aa am a0 a2 Z  m;go_upto_region 18 with (fail);obtain⟨W3,E⟩:=aC (wr.alloc (b7 #[b4 b.nm,b5 v b.row.length u,b5 x b.nums.length y] 174 (0,0)));have q:IY wr W3:=E▸(Below.refl _ wr).alloc (ce _) _;have s:ah W3 wr.heap.size 174 #[b4 b.nm,b5 v b.row.length u,b5 x b.nums.length y]:=E▸ah.new wr _ _;rw[<- E];clear E kC kT nZ bt;have p:=p.below q p.lt;have bX:W3.cell? ⟨w.heap.size,3,none⟩=some (b5 (some ad) rows.length cr):=p.cell 3;have QH:=qh (I.o.keep q);have t:=C.trans (q.mono iT);obtain⟨f1,O⟩:=af (lJ a (rows.take k) b);have wL:=qh O;have qO:=qh (QG.o W3 QH.o (t.mono G.o.2.2.2.2));rw[O] at qO lq;clear O;go_wp2_with fail;refine qO.o.mono ?_;rintro en W4 ⟨rfl,n⟩;have H:=t.trans (n.mono t.size);have p:=p.below n p.lt;have s:=s.below n s.lt;have X:=qh (QH.o.keep n);have an:=qh (show Below B wr W4 from (q.trans (n.mono q.size)).mono (cf G.o.2.2.2.2 iT));clear n q bX qO QG QH I;by_cases h0:f1=0;rotate_left
     .have bg:(f1 != 0)=true:=by simpa using h0
      have L:=qh (show jH c a bounds rows=f1 by rw[bn.o,HD.o,lq.o,if_pos h0]);have H0:=qh h0;clear h0 s p;go_wp2_with fail;go_ret2;exact SiR.bad (by rw[L.o];exact H0.o) (by rw[L.o];try rfl) H
     subst h0;obtain⟨ak,al,UM⟩:=rows_ok bi.o.2 MV.o wL.o;have K:(FK b).size<=100000000:=by
      have h:=qW b.nm.data.toList b.row UM;have h2:b.nm.data.toList.length<=16:=by simpa using ak
      have h3:(FK b).size=(iJ b.nm.data.toList b.row).length:=by simp[FK,ByteArray.size]
      omega
     have aM:=qh K;have bB:=H.mono G.o.2.2.2.2;have R:=cf G.o.2.2.2.2 H.size;have K1:=qh (show ∀ w',IY W4 w'->Calls Tryz.prog 77 #[b4 b.nm,b5 v b.row.length u] w' λ en bc=>en = .returned (b4 (FK b))/\IY W4 bc from λ w' m =>
      (FH b.nm b.row v u B w' (by omega) al UM (xX.o.1.below ((Below.refl B wr).trans (show Below B wr w' from (show Below B wr W4 from an.o).trans (m.mono R)))) (cf R m.size) (bj.o.below (H.trans (m.mono H.size)))).mono λ _ _ ⟨he,F⟩=>⟨he,m.trans (F.mono m.size)⟩)
     have XR:=qh (show ∀ r,IY W4 r->∃ w2,(cK 166 (.map (some (W2.heap.size+1))) (b4 (FK b)) (b5 x b.nums.length y)).run Tryz.prog r = .ok () w2/\aP w2 (W2.heap.size+1) ((FK b,b5 x b.nums.length y) :: Iw)/\r.grownBy w2 (some (W2.heap.size+1)) from λ r m =>
      (X.o.keep m).m4m.put Tryz.underlying166 (by have h:=X.o.kr.len;rw[h,cq];have:=S.o;unfold maxLen;omega) (by have:=aM.o;unfold maxLen;omega) _)
     have zz:W4.cell? ⟨(W2.heap.size+1+1),3,none⟩=some (.map (some (W2.heap.size+1))):=X.o.blk.cell 3;have ac:(W2.heap.size+1+1)≠(W2.heap.size+1):=X.o.ne.2.1;have y0:W4.cell? ⟨wr.heap.size,0,none⟩=some (b4 b.nm):=s.cell 0;have y1:W4.cell? ⟨wr.heap.size,1,none⟩=some (b5 v b.row.length u):=s.cell 1;have y2:W4.cell? ⟨wr.heap.size,2,none⟩=some (b5 x b.nums.length y):=s.cell 2;have a8:(W2.heap.size+1)<wr.heap.size:=vM.o;have HS:=qh (show ∀ w',IY W4 w'->w'.cell? ⟨(W2.heap.size+1+1),3,none⟩=some (.map (some (W2.heap.size+1)))/\w'.cell? ⟨wr.heap.size,0,none⟩=some (b4 b.nm)/\w'.cell? ⟨wr.heap.size,1,none⟩=some (b5 v b.row.length u)/\w'.cell? ⟨wr.heap.size,2,none⟩=some (b5 x b.nums.length y) from λ w' m=>⟨Below.cell_of m zz,Below.cell_of m y0,Below.cell_of m y1,Below.cell_of m y2⟩);have N:=qh (show ∀ r w2,IY W4 r->r.grownBy w2 (some (W2.heap.size+1))->w2.cell? ⟨(W2.heap.size+1+1),3,none⟩=some (.map (some (W2.heap.size+1)))/\w2.cell? ⟨wr.heap.size,0,none⟩=some (b4 b.nm)/\w2.cell? ⟨wr.heap.size,1,none⟩=some (b5 v b.row.length u)/\w2.cell? ⟨wr.heap.size,2,none⟩=some (b5 x b.nums.length y) from λ r w2 m J=>by
      have F:=HS.o r m;have FO:=cw s.lt m.size;have a1:=cw X.o.blk.lt m.size;refine⟨(J.cell_far _ a1 (λ e=>ac (ch e))).trans F.1,(J.cell_far _ FO (λ e=>(by have h:wr.heap.size=(W2.heap.size+1):=ch e;omega))).trans F.2.1,(J.cell_far _ FO (λ e=>(by have h:wr.heap.size=(W2.heap.size+1):=ch e;omega))).trans F.2.2.1,(J.cell_far _ FO (λ e=>(by have h:wr.heap.size=(W2.heap.size+1):=ch e;omega))).trans F.2.2.2⟩)
     have M:IY W4 W4:=Below.refl _ _;clear zz y0 y1 y2;go_upto_region 21 with (fail);go_region_held3 (λ w'=>w'.cell? ⟨(W2.heap.size+1+1),3,none⟩=some (.map (some (W2.heap.size+1)))/\w'.cell? ⟨wr.heap.size,0,none⟩=some (b4 b.nm)/\w'.cell? ⟨wr.heap.size,1,none⟩=some (b5 v b.row.length u)/\w'.cell? ⟨wr.heap.size,2,none⟩=some (b5 x b.nums.length y))
      (first | exact HS.o _ M.drew | exact HS.o _ l | exact N.o _ _ l o | exact N.o _ _ l o)
      (first | (go_at_call 77;(with_reducible refine (K1.o _ M.drew).mono ?_);rintro e1 r ⟨rfl,l⟩;obtain⟨w2,ap,A,o⟩:=XR.o r l))
     all_goals
      have zl:=qh (show Below B wr r from an.o.trans (l.mono R));have e1:rows.take k ++ [b]=rows.take (k+1):=by rw[cL aW.o,ba.o]
      have a4:=qh (show uu w2 B (W2.heap.size+1+1) (W.heap.size+1) (W.heap.size+1+1) W2.heap.size (W2.heap.size+1) Y U zV ((FK b,b5 x b.nums.length y) :: Iw) c a bounds (rows.take (k+1)) from by
       have h:=(X.o.keep l).aj9 o (xX.o.2.1.below zl.o) xX.o.2.2 A;rw[e1] at h;exact h)
      have MX:=qh ((p.below l p.lt).grown o (λ e=>(by have h:w.heap.size=(W2.heap.size+1):=ch e;have:=aw;omega)));have KU:IY w w2:=(H.trans (l.mono H.size)).grown o (cf H.size l.size) (λ g J=>(by have h:(W2.heap.size+1)=g:=ch J;have:=aw;omega));have a5:=qh (HD.o.trans (lq.o.trans (if_neg (λ h=>h rfl))));clear e1 M l A o ap HS N K1 XR s p a8 ac K ak al UM;go_wp2_with fail;go_roundw
      case rel=>exact⟨k+1,_,aW.o,by go_num,a4,MX,a5,KU⟩
      case measure =>
       have:=aW.o;simp[intOf];omega
    .have ao:rows.take k=rows:=cB (by omega);have HE:=qh (show aU (lJ a) [] rows=0 by rw[HD.o,cv (by omega)];rfl);have I:=qh (show uu wr B (W2.heap.size+1+1) (W.heap.size+1) (W.heap.size+1+1) W2.heap.size (W2.heap.size+1) Y U zV Iw c a bounds rows by have h:=I.o;rwa [ao] at h);clear ao HD;have L:=qh (show jH c a bounds rows=0 by rw[bn.o,HE.o]);go_wp2_with fail;go_ret2;exact⟨⟨some ⟨(W2.heap.size+1+1),0,none⟩,by rw[L.o];try rfl,λ _=>⟨(W2.heap.size+1+1),(W.heap.size+1),(W.heap.size+1+1),W2.heap.size,(W2.heap.size+1),Y,U,zV,Iw,rfl,I.o,by omega,by omega,by omega⟩⟩,C⟩
theorem FP (c:List aG) (b:List aQ) (a:List gm) (e:List oN) (h j m i:Option Addr) (u o q v B:Nat) (w:World) (F:bU w B h c) (E:dX w B j b) (r:su w B m a) (s:xW w B i e) (n:∀ d∈c,d.loops.length<=1048576) (D:∀ d∈b,d.loops.length<=1048576) (k:B<=w.heap.size) (f:DK w) :
  IE 14 #[.agg #[b5 h c.length u,b5 j b.length o,b5 m a.length q,b5 i e.length v]] w (b2 b3 (jH c b a e)):=by
 have H:=qh (λ w' (l:IY w w')=>NW c b a e h j m i u o q v B w' (F.keep (l.mono k)) (E.keep (l.mono k)) (r.keep (l.mono k)) (s.keep (l.mono k)) n D (cf k l.size) (f.below l));clear F E r s n D k f;go_enter Tryz.func14,Tryz.ntmps14;go_upto_region 1 with (fail);obtain⟨W,t⟩:=aC ((w.alloc (b7 #[b5 h c.length u,b5 j b.length o,b5 m a.length q,b5 i e.length v] 45 (0,0))));have g:IY w W:=by rw[t];exact ((Below.refl _ w).alloc (ce _) _)
 have B0:ah W (w.heap.size) 45 #[b5 h c.length u,b5 j b.length o,b5 m a.length q,b5 i e.length v]:=by
  rw[t];have:=ah.new w 45 #[b5 h c.length u,b5 j b.length o,b5 m a.length q,b5 i e.length v];exact this
 have z:W.heap.size=w.heap.size+1:=by rw[t];simp
 rw[<- t];obtain⟨A,I,x,C⟩:=ah.c4 B0;clear t z B0;go_wp2_with fail;refine (H.o W g).mono ?_;rintro G J ⟨⟨p,rfl,-⟩,y⟩;clear A I x C;go_wp2_with fail;go_ret;exact⟨rfl,g.trans (y.mono g.size)⟩
end Go.Proofs.YtcnagconagpkcaaGreatDoor
namespace Go.Proofs.YtcnagconagpkcaaGreatDoor
open Go.Deep Go.ChangeShapes Go.WideShapes Go.ChangeAt Go.RowKit Go.Joins
theorem XT {H:Type} (d:DataW H):1<=Rows.uptoBulk d:=by
 cases d with
 | lit l=>cases l <;> simp[Rows.uptoBulk]
 | nil=>simp[Rows.uptoBulk]
 | ptr d=>simp[Rows.uptoBulk]
 | slice a b=>simp[Rows.uptoBulk]
 | agg l=>simp[Rows.uptoBulk]
 | iface n d=>simp[Rows.uptoBulk]
 | map l=>simp[Rows.uptoBulk]
 | held v=>simp[Rows.uptoBulk]
theorem NZ {H:Type}:∀ l:List (DataW H),Rows.uptoBulkAll l=(l.map Rows.uptoBulk).sum
 | []=>by simp[Rows.uptoBulkAll]
 | d :: r=>by rw[Rows.uptoBulkAll,NZ r];simp
theorem Au {H:Type}:∀ l:List (DataW H),l.length<=Rows.uptoBulkAll l
 | []=>by simp
 | d :: r=>by
  have:=Au r;have:=XT d;rw[Rows.uptoBulkAll,cM];omega
theorem XU {f g:Nat->Nat}:∀ l:List Nat,(∀ i∈l,f i<=g i)->(l.map f).sum<=(l.map g).sum
 | [],_=>by simp
 | i :: r,h=>by
  have b:=XU r (λ j a=>h j (List.mem_cons_of_mem _ a));have c:=h i (List.mem_cons_self ..);simp only[List.map_cons,List.sum_cons];omega
theorem Aw {size:Nat} {f:Nat->List Value}:∀ {n:Nat},(∀ i,i<n->(f i).length=size)->((cp n).flatMap f).length=n*size
 | 0,_=>by simp
 | n+1,h=>by
  rw[cN,cO,cP,Aw (λ i a=>h i (by omega))];simp[h n (by omega),cQ]
theorem CB {size:Nat} {f:Nat->List Value}:∀ {n:Nat},(∀ i,i<n->(f i).length=size)->∀ i,i<n->(((cp n).flatMap f).drop (i*size)).take size=f i
 | n+1,h,i,hi=>by
  have b:=Aw (λ j a=>h j (by omega)) (n:=n) (f:=f) (size:=size);rw[cN,cO];simp only[List.flatMap_cons,List.flatMap_nil,List.append_nil];by_cases hin:i<n
  .have c:i*size+size<=n*size:=by rw[<- cQ];exact Nat.mul_le_mul_right _ hin
   rw[List.drop_append_of_le_length (by omega),List.take_append_of_le_length (by rw[List.length_drop];omega)];exact CB (λ j a=>h j (by omega)) i hin
  .have e:i=n:=by omega
   subst e;rw[List.drop_append,b,Nat.sub_self,List.drop_zero,cv (by omega),List.nil_append,cB (by rw[h i hi];exact ce _)]
theorem abL {size:Nat} {f:Nat->List Value} {n:Nat} (h:∀ i,i<n->(f i).length=size) (a:0<size) {j:Nat} {u:Value} (c:((cp n).flatMap f)[j]?=some u):∃ i r,i<n/\r<size/\j=i*size+r/\(f i)[r]?=some u:=by
 have b:j<n*size:=by rw[<- Aw h];exact (List.getElem?_eq_some_iff.1 c).1
 have d:j / size<n:=by rw[Nat.div_lt_iff_lt_mul a];exact b
 refine⟨j / size,j % size,d,cx _ a,by rw[cC];exact (cR j size).symm,?_⟩;rw[<- CB h _ d,ct,if_pos (cx _ a),List.getElem?_drop,cC,cR];exact c
section
variable {H:Type} {enc:TypeId × Value->H} {W:World}
theorem fQ {α:Type} [Inhabited α] {Pd:World->Nat->α->List Value->Prop} {μ:α->Nat} {t e:TypeId} {size C:Nat} {cs:List Value} {x:DataW H × List MemPlace} (U:Tryz.prog.underlying t=some (.slice e)) (N:Tryz.prog.cellsOf e=size) (v:0<size)
  (J:∀ n s y,n<C->cg enc Tryz.prog W 0 (λ _=>true) true n e s=some y->∃ a:α,Pd W W.heap.size a s/\μ a<=Rows.uptoBulk y.1) (h:cg enc Tryz.prog W 0 (λ _=>true) true C t cs=some x) :
  ∃ (A:Option Addr) (l:List α) (c:Nat),cs = [b5 A l.length c]/\aB Pd size W W.heap.size A l/\l.length<=c/\(l.map μ).sum+1<=Rows.uptoBulk x.1/\l.length+1<=Rows.uptoBulk x.1:=by
 rcases DataW.trod_slice U h with ⟨rfl,rfl⟩ | ⟨a,len,L,d,z,n,rfl,rfl,rfl,-,X,Z,B,O,-,-⟩
 .exact⟨none,[],0,rfl,⟨by simp,[],Reads.none_,λ i o=>by cases o⟩,by simp,by simp[Rows.uptoBulk],by simp[Rows.uptoBulk]⟩
 .obtain⟨V,F⟩:=choose_lt (α:=α × List Value) (n:=len) (p:=λ i q=>W.cells? 0 (a.add (i*size)) size=some q.2/\Pd W W.heap.size q.1 q.2/\μ q.1<=Rows.uptoBulk (d.getD i (.nil,[])).1) (λ i o=>by
   have D:=O i o;have w:i<d.length:=by omega
   rw[cj w,N] at D;obtain⟨s,P,R⟩:=Option.bind_eq_some_iff.1 D;obtain⟨b,T,Y⟩:=J n s _ (Nat.lt_succ_self n) R;exact⟨(b,s),P,T,by rw[cJ,cj w];exact Y⟩)
  have k:∀ i,i<len->(V i).2.length=size:=λ i o=>(World.cells?_some (F i o).1).2.1;have m:((cp len).map (λ i=>(V i).1)).length=len:=by simp
  refine⟨some a,(cp len).map (λ i=>(V i).1),L,by rw[m],⟨by rw[m];omega,(cp len).flatMap (λ i=>(V i).2),⟨by rw[m];exact Aw k,λ M=>?_⟩,λ i o=>?_⟩,by rw[m];exact X,?_,?_⟩
  .rw[m] at M;have E:∀ i r,i<len->r<size->∀ u,(V i).2[r]?=some u->W.cell? (a.add (i*size+r))=some u:=λ i r o I u K=>by
    have D:=(World.cells?_some (F i o).1).2.2 r I;rw[qf] at D;rw[D,K]
   refine⟨a,rfl,?_,λ j u K=>?_⟩
   .have S:0<(V 0).2.length:=by rw[k 0 M];exact v
    have D:=E 0 0 M v _ (cj S);have:=block_lt_of_cell D
    rwa [iZ] at this
   .obtain⟨i,r,o,I,rfl,G⟩:=abL k v K;exact E i r o I u G
  .have w:i<len:=by rw[m] at o;exact o
   rw[CB k i w];simp only[List.getElem_map,List.getElem_range];exact (F i w).2.1
  .show _<=Rows.uptoBulk (cD (d.map (·.1)) (z.map (·.1)));rw[Rows.uptoBulk,NZ];have Q:(d.map (·.1)).map Rows.uptoBulk=(cp len).map (λ i=>Rows.uptoBulk (d.getD i (.nil,[])).1):=by
    rw[cS,map_by_index d (.nil,[]),B];rfl
   rw[Q,cS];have:=XU (f:=μ ∘ λ i=>(V i).1) (g:=λ i=>Rows.uptoBulk (d.getD i (.nil,[])).1) (cp len) (λ i o=>(F i (List.mem_range.1 o)).2.2);omega
  .show _<=Rows.uptoBulk (cD (d.map (·.1)) (z.map (·.1)));rw[Rows.uptoBulk,m];have:=Au (d.map (·.1));rw[List.length_map,B] at this;omega
theorem qw {a:Nat} {cs:List Value} {x:DataW H × List MemPlace} (h:cg enc Tryz.prog W 0 (λ _=>true) true a 3 cs=some x):∃ n,cs = [.int .i64 n]:=by
 obtain⟨n,e,-⟩:=DataW.trod_int Tryz.underlying3 h;exact⟨n,e⟩
theorem uw {a:Nat} {cs:List Value} {x:DataW H × List MemPlace} (h:cg enc Tryz.prog W 0 (λ _=>true) true a 9 cs=some x):∃ s:ByteArray,cs = [.string s]/\s.size<=maxLen:=by
 obtain⟨s,e,-,b⟩:=DataW.trod_string Tryz.underlying9 h;exact⟨s,e,b⟩
theorem xY {a:Nat} {cs:List Value} {x:DataW H × List MemPlace} (h:cg enc Tryz.prog W 0 (λ _=>true) true a 4 cs=some x):∃ b,cs = [.bool b]:=by
 obtain⟨b,e,-⟩:=DataW.trod_bool Tryz.underlying4 h;exact⟨b,e⟩
theorem ag1 {α:Type}:∀ {cs:List α},cs.length=2->∃ a b,cs = [a,b]
 | [a,b],_=>⟨a,b,rfl⟩
theorem list4 {α:Type}:∀ {cs:List α},cs.length=4->∃ a b c d,cs = [a,b,c,d]
 | [a,b,c,d],_=>⟨a,b,c,d,rfl⟩
theorem ag2 {α:Type}:∀ {cs:List α},cs.length=8->∃ a b c d e f g h,cs = [a,b,c,d,e,f,g,h]
 | [a,b,c,d,e,f,g,h],_=>⟨a,b,c,d,e,f,g,h,rfl⟩
theorem abM {a:Nat} {cs:List Value} {x:DataW H × List MemPlace} (h:cg enc Tryz.prog W 0 (λ _=>true) true a 65 cs=some x) :
  ∃ y0 y1 y2 y3 n,a=n+1/\x.1 = .agg [y0.1,y1.1,y2.1,y3.1]/\cs.length=4/\cg enc Tryz.prog W 0 (λ _=>true) true n 3 ((cs.drop 0).take 1)=some y0/\cg enc Tryz.prog W 0 (λ _=>true) true n 3 ((cs.drop 1).take 1)=some y1/\cg enc Tryz.prog W 0 (λ _=>true) true n 9 ((cs.drop 2).take 1)=some y2/\cg enc Tryz.prog W 0 (λ _=>true) true n 54 ((cs.drop 3).take 1)=some y3:=by
 obtain⟨e,n,f,rfl,d,b,c⟩:=cT Tryz.underlying65 h
 match e,b with
 | [y0,y1,y2,y3],_ =>
  refine⟨y0,y1,y2,y3,n,f,rfl,d.trans (by kernel_rfl),?_,?_,?_,?_⟩
  .have h:cg enc Tryz.prog W 0 (λ _=>true) true n 3 ((cs.drop 0).take (Tryz.prog.cellsOf 3))=some y0:=c 0 _ rfl;rw[show Tryz.prog.cellsOf 3=1 by kernel_rfl] at h;exact h
  .have h:cg enc Tryz.prog W 0 (λ _=>true) true n 3 ((cs.drop 1).take (Tryz.prog.cellsOf 3))=some y1:=c 1 _ rfl;rw[show Tryz.prog.cellsOf 3=1 by kernel_rfl] at h;exact h
  .have h:cg enc Tryz.prog W 0 (λ _=>true) true n 9 ((cs.drop 2).take (Tryz.prog.cellsOf 9))=some y2:=c 2 _ rfl;rw[show Tryz.prog.cellsOf 9=1 by kernel_rfl] at h;exact h
  .have h:cg enc Tryz.prog W 0 (λ _=>true) true n 54 ((cs.drop 3).take (Tryz.prog.cellsOf 54))=some y3:=c 3 _ rfl;rw[show Tryz.prog.cellsOf 54=1 by kernel_rfl] at h;exact h
theorem abN {a:Nat} {cs:List Value} {x:DataW H × List MemPlace} (h:cg enc Tryz.prog W 0 (λ _=>true) true a 67 cs=some x) :
  ∃ y0 y1 y2 y3 y4 n,a=n+1/\x.1 = .agg [y0.1,y1.1,y2.1,y3.1,y4.1]/\cs.length=8/\cg enc Tryz.prog W 0 (λ _=>true) true n 3 ((cs.drop 0).take 1)=some y0/\cg enc Tryz.prog W 0 (λ _=>true) true n 3 ((cs.drop 1).take 1)=some y1/\cg enc Tryz.prog W 0 (λ _=>true) true n 9 ((cs.drop 2).take 1)=some y2/\cg enc Tryz.prog W 0 (λ _=>true) true n 65 ((cs.drop 3).take 4)=some y3/\cg enc Tryz.prog W 0 (λ _=>true) true n 52 ((cs.drop 7).take 1)=some y4:=by
 obtain⟨e,n,f,rfl,d,b,c⟩:=cT Tryz.underlying67 h
 match e,b with
 | [y0,y1,y2,y3,y4],_ =>
  refine⟨y0,y1,y2,y3,y4,n,f,rfl,d.trans (by kernel_rfl),?_,?_,?_,?_,?_⟩
  .have h:cg enc Tryz.prog W 0 (λ _=>true) true n 3 ((cs.drop 0).take (Tryz.prog.cellsOf 3))=some y0:=c 0 _ rfl;rw[show Tryz.prog.cellsOf 3=1 by kernel_rfl] at h;exact h
  .have h:cg enc Tryz.prog W 0 (λ _=>true) true n 3 ((cs.drop 1).take (Tryz.prog.cellsOf 3))=some y1:=c 1 _ rfl;rw[show Tryz.prog.cellsOf 3=1 by kernel_rfl] at h;exact h
  .have h:cg enc Tryz.prog W 0 (λ _=>true) true n 9 ((cs.drop 2).take (Tryz.prog.cellsOf 9))=some y2:=c 2 _ rfl;rw[show Tryz.prog.cellsOf 9=1 by kernel_rfl] at h;exact h
  .have h:cg enc Tryz.prog W 0 (λ _=>true) true n 65 ((cs.drop 3).take (Tryz.prog.cellsOf 65))=some y3:=c 3 _ rfl;rw[show Tryz.prog.cellsOf 65=4 by kernel_rfl] at h;exact h
  .have h:cg enc Tryz.prog W 0 (λ _=>true) true n 52 ((cs.drop 7).take (Tryz.prog.cellsOf 52))=some y4:=c 4 _ rfl;rw[show Tryz.prog.cellsOf 52=1 by kernel_rfl] at h;exact h
instance:Inhabited aG:=⟨⟨.empty,0,[]⟩⟩
instance:Inhabited aQ:=⟨⟨.empty,[]⟩⟩
instance:Inhabited gm:=⟨⟨.empty,[],⟨0,0,.empty,[]⟩,false⟩⟩
instance:Inhabited oN:=⟨⟨.empty,[],[]⟩⟩
instance:Inhabited Ex:=⟨.mk 0 0 .empty ⟨0,0,.empty,[]⟩ []⟩
end
section
variable {H:Type} {enc:TypeId × Value->H} {W:World}
theorem N7 {g:Nat} {cs:List Value} {x:DataW H × List MemPlace} (h:cg enc Tryz.prog W 0 (λ _=>true) true g 54 cs=some x) :
  ∃ (A:Option Addr) (l:List Int) (c:Nat),cs = [b5 A l.length c]/\Reads W W.heap.size 1 A l.length (bI b3 l)/\l.length<=c/\l.length<=maxLen/\l.length+1<=Rows.uptoBulk x.1:=by
 rcases open_ints Tryz.underlying54 Tryz.underlying3 (by kernel_rfl) h with ⟨rfl,rfl⟩ | ⟨a,len,i,d,rfl,-,q,r,m,rfl,b,p⟩
 .exact⟨none,[],0,rfl,Reads.none_,by simp,by simp,by simp[Rows.uptoBulk]⟩
 .simp only[if_true] at m;have e:(d.take len).length=len:=by simp;omega
  refine⟨some a,d.take len,i,by rw[e],?_,by rw[e];exact q,by rw[e];omega,?_⟩
  .rw[e];refine⟨by rw[qi];omega,λ s=>?_⟩;have o:=b 0 (by omega);refine⟨a,rfl,by have:=block_lt_of_cell o;rwa [iZ] at this,λ j u n=>?_⟩;obtain⟨k,rfl⟩:=jm _ _ _ _ n;have f:j<d.length:=by rw[e] at k;omega
   rw[b j f];simp[List.getD,f]
  .show _<=Rows.uptoBulk (cD (lits .i64 (d.take len)) (lits .i64 (d.drop len)));rw[Rows.uptoBulk];have:=Au (H:=H) (lits .i64 (d.take len));rw[show (lits (H:=H) .i64 (d.take len)).length=(d.take len).length by simp[lits]] at this;omega
end
end Go.Proofs.YtcnagconagpkcaaGreatDoor
namespace Go.Proofs.YtcnagconagpkcaaGreatDoor.Limb
def B:Nat:=1000000000
def val:List Nat->Nat
 | []=>0
 | x :: r=>x+1000000000*val r
def Small (l:List Nat):Prop:=∀ x∈l,x<1000000000
theorem Small.nil:Small []:=λ x h=>by cases h
theorem Small.append {l r:List Nat} (h:Small l) (b:Small r):Small (l ++ r):=λ x a=>by
 rcases cU.1 a with a | a
 .exact h x a
 .exact b x a
theorem Small.snoc {l:List Nat} {x:Nat} (h:Small l) (b:x<1000000000):Small (l ++ [x]):=h.append λ y a=>by simp at a;omega
theorem Small.take {l:List Nat} (h:Small l) (k:Nat):Small (l.take k):=λ x a=>h x (List.mem_of_mem_take a)
theorem Small.drop {l:List Nat} (h:Small l) (k:Nat):Small (l.drop k):=λ x a=>h x (List.mem_of_mem_drop a)
theorem Small.at_ {l:List Nat} (h:Small l) {k:Nat} (a:k<l.length):l[k]<1000000000:=h _ (List.getElem_mem a)
end Go.Proofs.YtcnagconagpkcaaGreatDoor.Limb
namespace Go.Proofs.YtcnagconagpkcaaGreatDoor.Dig
open Limb
def dQ (b:UInt8):Prop:=48<=b.toNat/\b.toNat<=57
def eY (l:List UInt8):Nat:=l.foldl (λ n b=>n*10+(b.toNat - 48)) 0
theorem UN (l:List UInt8) (n:Nat):l.foldl (λ n b=>n*10+(b.toNat - 48)) n=n*10 ^ l.length+eY l:=by
 induction l generalizing n with
 | nil=>simp[eY]
 | cons b l ih =>
  have e:eY (b :: l)=(b.toNat - 48)*10 ^ l.length+eY l:=by
   unfold eY;rw[cE,ih,Nat.zero_mul,Nat.zero_add];rfl
  rw[cE,ih,e,cM,cV,Nat.add_mul];have:n*10*10 ^ l.length=n*(10 ^ l.length*10):=by rw[Nat.mul_assoc,cC 10]
  omega
theorem IU (a b:List UInt8):eY (a ++ b)=eY a*10 ^ b.length+eY b:=by
 have:=UN b (eY a);unfold eY at *;rw[List.foldl_append,this]
theorem DR (b:UInt8) (l:List UInt8):eY (b :: l)=(b.toNat - 48)*10 ^ l.length+eY l:=by
 have:=IU [b] l;simpa [eY] using this
theorem DT (l:List UInt8) (b:UInt8):eY (l ++ [b])=eY l*10+(b.toNat - 48):=by
 simp[eY]
theorem xZ {k:Nat} (h:k<10):(UInt8.ofNat (48+k)).toNat=48+k:=by
 rw[UInt8.toNat_ofNat'];omega
theorem FQ (u:Nat):eY (ck u)=u:=by
 induction u using cW with
 | _ u ih =>
  rw[ck];by_cases h:u<10
  .rw[dif_pos h];simp only[eY,cE,List.foldl_nil,xZ h];omega
  .rw[dif_neg h,DT,ih (u / 10) (by omega),xZ (cx _ (by omega))];omega
theorem x8 (u:Nat):∀ b∈ck u,dQ b:=by
 induction u using cW with
 | _ u ih =>
  rw[ck];by_cases h:u<10
  .rw[dif_pos h];intro b a;rw[cX.1 a];unfold dQ;rw[xZ h];omega
  .rw[dif_neg h];intro b a;rcases cU.1 a with a | a
   .exact ih (u / 10) (by omega) b a
   .rw[cX.1 a];unfold dQ;rw[xZ (cx _ (by omega))];omega
theorem iK (k u:Nat) (h:u<10 ^ (k+1)):(ck u).length<=k+1:=by
 induction k generalizing u with
 | zero=>rw[ck,dif_pos (by simpa using h)];simp
 | succ k ih =>
  rw[ck];by_cases h0:u<10
  .rw[dif_pos h0];simp
  .rw[dif_neg h0,cP];have:=ih (u / 10) (by rw[cV] at h;omega);simp;omega
theorem abO (u:Nat):0<(ck u).length:=by
 rw[ck];split <;> simp
def zeros (k:Nat):List UInt8:=cY k 48
theorem KY (k:Nat) (l:List UInt8):eY (zeros k ++ l)=eY l:=by
 induction k with
 | zero=>rfl
 | succ k ih =>
  rw[zeros,List.replicate_succ,List.cons_append,DR];rw[show cY k 48 ++ l=zeros k ++ l from rfl,ih];simp
theorem UO (k:Nat):∀ b∈zeros k,dQ b:=λ b a=>by
 rw[(List.mem_replicate.1 a).2];unfold dQ;decide
end Go.Proofs.YtcnagconagpkcaaGreatDoor.Dig
