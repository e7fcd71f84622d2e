/- Lemmas. -/
import Derived.Test.YtcnagconagpkcaaGreatDoorZ1
import Derived.Test.YtcnagconagpkcaaGreatDoorZSh
import Derived.Maps.OwnSet
import Derived.StringKeys
import Derived.Deep.RegionHeld3
import Derived.Deep.DrawnRows
import Derived.IntWalk
open Go.Value renaming int->aM, string->aZ, slice->a0, pointer->a1, bool->a3
open Go.IntKind renaming i64->aR
open Go.Obj renaming cells->a2
open Go.Ending renaming returned->a4
open Nat renaming le_refl->a5, le_trans->a8, eq_zero_or_pos->bc, zero_le->bl, pos_iff_ne_zero->bm, lt_of_lt_of_le->bx
open And renaming intro->a6
open Go.ByteArray renaming toList_eq->a7
open Bool renaming eq_iff_iff->a9, eq_false_iff->bs, and_eq_true->bS
open List renaming eq_nil_of_length_eq_zero->ba, getElem?_eq_getElem->be, mem_singleton->bh, mem_cons->bi, take_succ_eq_append_getElem->bj, getElem_mem->bk, getElem?_take->bo, getElem?_map->bp, take_length->bq, contains_iff_mem->br, drop_eq_getElem_cons->bt, take_of_length_le->bv, getElem?_drop->bw, mem_cons_self->bz, mem_cons_of_mem->bA, mem_append->bB, mem_append_left->bE, pairwise_append->bL, pairwise_singleton->bN, any_eq_false->bO, any_eq_true->bR
open Go.Instr renaming lookup->bb
open Go.World renaming size_alloc->bd
set_option maxHeartbeats 8000000
set_option maxRecDepth 100000
namespace Go.Proofs.YtcnagconagpkcaaGreatDoor
open Tryz
open Tryz renaming prog->lM
section
open Go.RowKit
theorem nC (c:UInt8) (w:World) :
  E5 55 #[.int .u8 (c.toNat:Nat)] w (a3 (rW c)):=by
 go_enter func55,ntmps55;go_wp2
 all_goals (go_ret;exact⟨aH (by unfold rW;rw[a9];simp;try omega),rfl⟩)
theorem iR (c:UInt8) (w:World) :
  E5 57 #[.int .u8 (c.toNat:Nat)] w (a3 (gp c)):=by
 go_enter func57,ntmps57;go_wp2
 all_goals (go_ret;exact⟨aH (by unfold gp rW;rw[a9];simp;try omega),rfl⟩)
theorem Ej (s:ByteArray) (w:World) (h:s.data.toList∈dK) :
  E5 56 #[aZ s] w (a3 true):=by
 have b:s=⟨#[97,110,100]⟩\/s=⟨#[111,114]⟩\/s=⟨#[110,111,116]⟩\/s=⟨#[105,110]⟩\/s=⟨#[104,97,115]⟩\/s=⟨#[109,111,100]⟩\/s=⟨#[116,114,117,101]⟩\/s=⟨#[102,97,108,115,101]⟩:=by
  have a:∀ l:List UInt8,s.data.toList=l->s=⟨l.toArray⟩:=λ l e=>by subst e;rfl
  simp only[dK,bi,List.mem_nil_iff,or_false] at h;rcases h with h | h | h | h | h | h | h | h
  .exact .inl (a _ h)
  .exact .inr (.inl (a _ h))
  .exact .inr (.inr (.inl (a _ h)))
  .exact .inr (.inr (.inr (.inl (a _ h))))
  .exact .inr (.inr (.inr (.inr (.inl (a _ h)))))
  .exact .inr (.inr (.inr (.inr (.inr (.inl (a _ h))))))
  .exact .inr (.inr (.inr (.inr (.inr (.inr (.inl (a _ h)))))))
  .exact .inr (.inr (.inr (.inr (.inr (.inr (.inr ((a _ h))))))))
 rcases b with rfl | rfl | rfl | rfl | rfl | rfl | rfl | rfl
 all_goals
  go_enter func56,ntmps56;go_wp2;go_ret;exact⟨rfl,rfl⟩
theorem Ha (s:ByteArray) (w:World) (h:s.data.toList ∉ dK) :
  E5 56 #[aZ s] w (a3 false):=by
 have d:(s.toList == [97,110,100])=false:=by rw[a7,beq_eq_false_iff_ne];exact λ e=>h (by rw[e];decide)
 have b:(s.toList == [111,114])=false:=by rw[a7,beq_eq_false_iff_ne];exact λ e=>h (by rw[e];decide)
 have a:(s.toList == [110,111,116])=false:=by rw[a7,beq_eq_false_iff_ne];exact λ e=>h (by rw[e];decide)
 have f:(s.toList == [105,110])=false:=by rw[a7,beq_eq_false_iff_ne];exact λ e=>h (by rw[e];decide)
 have i:(s.toList == [104,97,115])=false:=by rw[a7,beq_eq_false_iff_ne];exact λ e=>h (by rw[e];decide)
 have g:(s.toList == [109,111,100])=false:=by rw[a7,beq_eq_false_iff_ne];exact λ e=>h (by rw[e];decide)
 have j:(s.toList == [116,114,117,101])=false:=by rw[a7,beq_eq_false_iff_ne];exact λ e=>h (by rw[e];decide)
 have c:(s.toList == [102,97,108,115,101])=false:=by rw[a7,beq_eq_false_iff_ne];exact λ e=>h (by rw[e];decide)
 clear h;go_enter func56,ntmps56;go_wp2;go_ret;exact⟨rfl,rfl⟩
theorem lH (s:ByteArray) (w:World) :
  E5 56 #[aZ s] w (a3 (dK.contains s.data.toList)):=by
 by_cases h:s.data.toList∈dK
 .rw[br.2 h];exact Ej s w h
 .rw[show dK.contains s.data.toList=false from by rw[bs];exact λ e=>h (br.1 e)];exact Ha s w h
theorem Jt {s:List UInt8} (h:s = []):aP s=false:=by subst h;rfl
theorem MG {s:List UInt8} (h:16<s.length):aP s=false:=by
 unfold aP;rw[show decide (s.length<=16)=false by simp;omega];simp
theorem PY {c:UInt8} {r:List UInt8} (h:rW c=false):aP (c :: r)=false:=by simp[aP,h]
theorem PZ {s:List UInt8} (h:dK.contains s=true):aP s=false:=by simp only[aP,h];simp
theorem MH {c:UInt8} {r:List UInt8} (b:(c :: r).length<=16) (a:rW c=true) (d:dK.contains (c :: r)=false):aP (c :: r)=(c :: r).all gp:=by
 simp only[aP,a,d];simp;intro _ _;simpa using b
theorem head_cons {s:ByteArray} (h:0<s.size):s.data.toList=s[0] :: s.data.toList.tail:=by
 have a:0<s.data.toList.length:=h;rw[show s.data.toList.tail=s.data.toList.drop 1 by simp];have:=bt a;rw[List.drop_zero] at this;rw[this];rfl
theorem Xy {s:ByteArray} {k:Nat} {p:UInt8->Bool} (h:k<s.size) (a:(s.data.toList.take k).all p=true):(s.data.toList.take (k+1)).all p=p s[k]:=by
 have b:k<s.data.toList.length:=h;rw[bj b,List.all_append,a];simp;rfl
theorem abQ {s:ByteArray} {k:Nat} {p:UInt8->Bool} (h:k<s.size) (a:p s[k]=false):s.data.toList.all p=false:=by
 have b:k<s.data.toList.length:=h;rw[bs];intro e;rw[List.all_eq_true] at e;have:=e s.data.toList[k] (bk b);rw[show s.data.toList[k]=s[k] from rfl,a] at this;cases this
theorem jE (s:ByteArray) (w:World) (y:s.size<=maxLen) :
  E5 23 #[aZ s] w (a3 (aP s.data.toList)):=by
 unfold maxLen at y;have d:s.data.toList.length=s.size:=rfl;by_cases h0:s=⟨#[]⟩
 .have f:=qh (Jt (s:=s.data.toList) (by rw[h0]));subst h0;go_enter func23,ntmps23;go_wp2_with fail;go_ret;exact⟨aH (by rw[f.o]),rfl⟩
 have A:0<s.size:=by
  rcases bc s.size with h | h
  .exact absurd (ByteArray.ext (Array.toList_inj.1 (ba (d.trans h)))) h0
  .exact h
 have D:s.toList.isEmpty=false:=by rw[a7];cases hh:s.data.toList with
  | nil=>rw[hh] at d;simp at d;omega
  | cons a r=>rfl
 have o:=qh (head_cons A);by_cases h1:16<s.size
 .have f:=qh (MG (s:=s.data.toList) h1);have b1:decide ((16:Int)<(s.size:Nat))=true:=by simp;omega
  clear h0 d h1;go_enter func23,ntmps23;go_wp2_with fail;go_ret;exact⟨aH (by rw[f.o]),rfl⟩
 have b1:decide ((16:Int)<(s.size:Nat))=false:=by simp;omega
 by_cases h2:rW s[0]=true;rotate_left
 .have f:=qh (show aP s.data.toList=false by rw[o.o];exact PY (by simpa using h2));have l:=qh (show ∀ w',Calls lM 55 #[.int .u8 (s[0].toNat:Nat)] w' λ e c=>e = a4 (a3 false)/\w'=c from λ w'=>by
   have h:=nC s[0] w'
   rwa [show rW s[0]=false by simpa using h2] at h)
  clear h0 d h1 h2;go_enter func23,ntmps23;go_wp2_with fail;refine (l.o _).mono ?_;rintro e j ⟨rfl,rfl⟩;go_wp2_with fail;go_ret;exact⟨aH (by rw[f.o]),rfl⟩
 have l:=qh (show ∀ w',Calls lM 55 #[.int .u8 (s[0].toNat:Nat)] w' λ e c=>e = a4 (a3 true)/\w'=c from λ w'=>by
  have h:=nC s[0] w'
  rwa [h2] at h)
 by_cases h3:dK.contains s.data.toList=true
 .have f:=qh (PZ h3);have m:=qh (show ∀ w',Calls lM 56 #[aZ s] w' λ e c=>e = a4 (a3 true)/\w'=c from λ w'=>by
   have h:=lH s w'
   rwa [h3] at h)
  clear h0 d h1 h2 h3;go_enter func23,ntmps23;go_wp2_with fail;refine (l.o _).mono ?_;rintro e j ⟨rfl,rfl⟩;go_wp2_with fail;refine (m.o _).mono ?_;rintro e j ⟨rfl,rfl⟩;go_wp2_with fail;go_ret;exact⟨aH (by rw[f.o]),rfl⟩
 have g:dK.contains s.data.toList=false:=by simpa using h3
 have m:=qh (show ∀ w',Calls lM 56 #[aZ s] w' λ e c=>e = a4 (a3 false)/\w'=c from λ w'=>by
  have h:=lH s w'
  rwa [g] at h)
 have f:=qh (show aP s.data.toList=s.data.toList.all gp by
  rw[o.o] at g ⊢;exact MH (by rw[<- o.o];omega) h2 g)
 have v:s.size<=16:=by omega
 clear h0 d h1 h2 h3 g;go_enter func23,ntmps23;go_wp2_with fail;refine (l.o _).mono ?_;rintro e j ⟨rfl,rfl⟩;go_wp2_with fail;refine (m.o _).mono ?_;rintro e j ⟨rfl,rfl⟩;clear l m;go_wp2_with fail
 go_loop [3] (λ i=>∃ k:Nat,k<=s.size/\i = aM aR k/\Hid ((s.data.toList.take k).all gp=true)) (λ i=>s.size - (intOf i).toNat)
 case atStart=>exact⟨0,bl _,rfl,qh rfl⟩
 case round =>
  obtain⟨k,E,rfl,t⟩:=hrel;by_cases hlt:k<s.size
  .obtain⟨b,n⟩:=af (gp s[k]);have C:=qh n;have z:=qh ((Xy hlt t.o).trans n);have q:=qh hlt;have HW:=qh (show Calls lM 57 #[.int .u8 (s[k].toNat:Nat)] w λ e c=>e = a4 (a3 b)/\w=c from by
    exact (iR s[k] w).mono λ e c ⟨u,B⟩=>⟨u.trans (congrArg (λ x=>Ending.returned (a3 x)) n),B⟩)
   clear n;go_wp2_with fail;refine HW.o.mono ?_;rintro e j ⟨rfl,rfl⟩;cases b
   .have p:=qh (abQ q.o C.o);go_wp2_with fail;go_ret;exact⟨aH (by rw[f.o,p.o]),rfl⟩
   .go_wp2_with fail
    go_round
    case rel=>exact⟨k+1,q.o,by go_num,z⟩
    case measure =>
     have:=q.o;simp[intOf];omega
  .have p:=qh (show s.data.toList.all gp=true by
    have h:=t.o
    rwa [bv (by show s.size<=k;omega)] at h)
   go_wp2_with fail;go_ret;exact⟨aH (by rw[f.o,p.o]),rfl⟩
theorem aB {w w':World} {n:String} {k:IntKind} {l:List Int} (h:Lib.TabIs lM w n k l) (c:DD w w'):Lib.TabIs lM w' n k l:=by
 unfold Lib.TabIs World.var? at *;cases hg:lM.globalNamed n with
 | none=>rw[hg] at h;cases h
 | some g =>
  rw[hg] at h;simp only[Option.bind_some] at h ⊢;have a:g<w.heap.size:=by
   rcases Nat.lt_or_ge g w.heap.size with b | b
   .exact b
   .rw[Array.getElem?_eq_none b] at h;cases h
  rw[c.block g a];exact h
theorem su (x:Val) (A:Option Addr) (c:Nat) (w:World) :
  CS 292 #[.agg (BF x A c)] w (a3 (rX x)):=by
 go_enter func292,ntmps292;go_wp2
 all_goals (go_ret;exact⟨aH (by simp_all[rX];try (rw[a9];simp[List.length_eq_zero_iff])),(Below.refl _ _).alloc (a5 _) _⟩)
theorem P7 {op:Int} (h:op≠2/\op≠3/\op≠24/\op≠25/\op≠26/\op≠1/\op≠12/\op≠13/\op≠14/\op≠20/\op≠21/\op≠22/\op≠23/\op≠28/\op≠29/\op≠30/\op≠34/\op≠35/\op≠36):jm op=if aW op 1 39=true then (0,0) else (2,2):=by
 obtain⟨r,t,f,g,c,s,b,n,l,o,k,i,e,a,p,j,q,d,m⟩:=h;unfold jm;rw[if_neg (by omega),if_neg (by omega),if_neg (by omega)];by_cases h0:1<=op/\op<=39
 .rw[if_pos h0,oV h0.1 h0.2];rfl
 .rw[if_neg h0,oK (by omega)];rfl
def arV (op:Int):Value:=.tuple #[aM aR ((jm op).1:Nat),aM aR ((jm op).2:Nat)]
theorem Ii (op:Int) (w:World) :
  E5 293 #[aM aR op] w (arV op):=by
 by_cases h:op=2\/op=3\/op=24\/op=25\/op=26\/op=1\/op=12\/op=13\/op=14\/op=20\/op=21\/op=22\/op=23\/op=28\/op=29\/op=30\/op=34\/op=35\/op=36
 .rcases h with rfl | rfl | rfl | rfl | rfl | rfl | rfl | rfl | rfl | rfl | rfl | rfl | rfl | rfl | rfl | rfl | rfl | rfl | rfl
  all_goals
   go_enter func293,ntmps293;go_wp2;go_ret2;exact⟨rfl,rfl⟩
 .have c:op≠2/\op≠3/\op≠24/\op≠25/\op≠26/\op≠1/\op≠12/\op≠13/\op≠14/\op≠20/\op≠21/\op≠22/\op≠23/\op≠28/\op≠29/\op≠30/\op≠34/\op≠35/\op≠36:=by omega
  have b:=qh (P7 c);have b2:(op == 2)=false:=by rw[beq_eq_false_iff_ne];omega
  have b3:(op == 3)=false:=by rw[beq_eq_false_iff_ne];omega
  have p:(op == 24)=false:=by rw[beq_eq_false_iff_ne];omega
  have j:(op == 25)=false:=by rw[beq_eq_false_iff_ne];omega
  have s:(op == 26)=false:=by rw[beq_eq_false_iff_ne];omega
  have b1:(op == 1)=false:=by rw[beq_eq_false_iff_ne];omega
  have k:(op == 12)=false:=by rw[beq_eq_false_iff_ne];omega
  have q:(op == 13)=false:=by rw[beq_eq_false_iff_ne];omega
  have t:(op == 14)=false:=by rw[beq_eq_false_iff_ne];omega
  have v:(op == 20)=false:=by rw[beq_eq_false_iff_ne];omega
  have l:(op == 21)=false:=by rw[beq_eq_false_iff_ne];omega
  have i:(op == 22)=false:=by rw[beq_eq_false_iff_ne];omega
  have g:(op == 23)=false:=by rw[beq_eq_false_iff_ne];omega
  have x:(op == 28)=false:=by rw[beq_eq_false_iff_ne];omega
  have r:(op == 29)=false:=by rw[beq_eq_false_iff_ne];omega
  have u:(op == 30)=false:=by rw[beq_eq_false_iff_ne];omega
  have f:(op == 34)=false:=by rw[beq_eq_false_iff_ne];omega
  have m:(op == 35)=false:=by rw[beq_eq_false_iff_ne];omega
  have n:(op == 36)=false:=by rw[beq_eq_false_iff_ne];omega
  obtain⟨o,d⟩:=af (aW op 1 39);have a:=qh d;clear h c d;go_enter func293,ntmps293;go_wp2_with fail;refine (bG op 1 39 w).mono ?_;rw[a.o];rintro e y ⟨rfl,rfl⟩;cases o
  .go_wp2;go_ret2;exact⟨dC (by unfold arV;rw[b.o,a.o];rfl),rfl⟩
  .go_wp2;go_ret2;exact⟨dC (by unfold arV;rw[b.o,a.o];rfl),rfl⟩
theorem abR (op:Int) (nm:ByteArray) (v:Val) (n:Nat) (A:Option Addr) (c:Nat) (A':Option Addr) (c':Nat) (w:World) (a:n<=maxLen) :
  CS 272 #[.agg (BC 1 op nm v A c A' n c')] w (a3 (dQ 1 op nm v n)):=by
 unfold maxLen at a;go_enter func272,ntmps272;go_wp2
 all_goals (go_ret;exact⟨aH (by simp_all[dQ,bm]),(Below.refl _ _).alloc (a5 _) _⟩)
theorem abS (op:Int) (nm:ByteArray) (v:Val) (n:Nat) (A:Option Addr) (c:Nat) (A':Option Addr) (c':Nat) (w:World) (i:n<=maxLen) :
  CS 272 #[.agg (BC 2 op nm v A c A' n c')] w (a3 (dQ 2 op nm v n)):=by
 unfold maxLen at i;obtain⟨z,f⟩:=af (rX v);have g:=qh f;clear f;go_enter func272,ntmps272;go_wp2_with fail;obtain⟨W,d⟩:=aG ((w.alloc (.cells (BC 2 op nm v A c A' n c') 67 (0,0))));have a:DD w W:=by rw[d];exact ((Below.refl _ w).alloc (a5 _) _)
 have B0:ah W (w.heap.size) 67 (BC 2 op nm v A c A' n c'):=by
  rw[d];have:=ah.new w 67 (BC 2 op nm v A c A' n c');exact this
 have h:W.heap.size=w.heap.size+1:=by rw[d];simp
 rw[<- d];clear d h;refine (su v A c W).mono ?_;rw[g.o];rintro e k ⟨rfl,b⟩;have B0:=B0.below b B0.lt;have a:=a.trans (b.mono a.size);clear b;obtain⟨p,r,s,j,o,q,m,l⟩:=ah.c8 B0;cases z
 .go_wp2;go_ret;exact⟨aH (by unfold dQ;rw[g.o];simp),a⟩
 .go_wp2
  all_goals (go_ret;exact⟨aH (by have f:=g.o;simp_all[dQ,bm]),a⟩)
theorem abT (op:Int) (nm:ByteArray) (v:Val) (n:Nat) (A:Option Addr) (c:Nat) (A':Option Addr) (c':Nat) (w:World) (i:n<=maxLen) :
  CS 272 #[.agg (BC 3 op nm v A c A' n c')] w (a3 (dQ 3 op nm v n)):=by
 unfold maxLen at i;obtain⟨z,f⟩:=af (rX v);have g:=qh f;clear f;go_enter func272,ntmps272;go_wp2_with fail;obtain⟨W,d⟩:=aG ((w.alloc (.cells (BC 3 op nm v A c A' n c') 67 (0,0))));have a:DD w W:=by rw[d];exact ((Below.refl _ w).alloc (a5 _) _)
 have B0:ah W (w.heap.size) 67 (BC 3 op nm v A c A' n c'):=by
  rw[d];have:=ah.new w 67 (BC 3 op nm v A c A' n c');exact this
 have h:W.heap.size=w.heap.size+1:=by rw[d];simp
 rw[<- d];clear d h;refine (su v A c W).mono ?_;rw[g.o];rintro e k ⟨rfl,b⟩;have B0:=B0.below b B0.lt;have a:=a.trans (b.mono a.size);clear b;obtain⟨p,r,s,j,o,q,m,l⟩:=ah.c8 B0;cases z
 .go_wp2;go_ret;exact⟨aH (by unfold dQ;rw[g.o];simp),a⟩
 .go_wp2
  all_goals (go_ret;exact⟨aH (by have f:=g.o;simp_all[dQ,bm]),a⟩)
theorem abU (op:Int) (nm:ByteArray) (v:Val) (n:Nat) (A:Option Addr) (c:Nat) (A':Option Addr) (c':Nat) (w:World) (B:n<=maxLen) :
  CS 272 #[.agg (BC 4 op nm v A c A' n c')] w (a3 (dQ 4 op nm v n)):=by
 unfold maxLen at B;obtain⟨z,q⟩:=af (rX v);have k:=qh q;clear q;go_enter func272,ntmps272;go_wp2_with fail;obtain⟨W,i⟩:=aG ((w.alloc (.cells (BC 4 op nm v A c A' n c') 67 (0,0))));have b:DD w W:=by rw[i];exact ((Below.refl _ w).alloc (a5 _) _)
 have B0:ah W (w.heap.size) 67 (BC 4 op nm v A c A' n c'):=by
  rw[i];have:=ah.new w 67 (BC 4 op nm v A c A' n c');exact this
 have l:W.heap.size=w.heap.size+1:=by rw[i];simp
 rw[<- i];clear i l;refine (su v A c W).mono ?_;rw[k.o];rintro e o ⟨rfl,f⟩;have B0:=B0.below f B0.lt;have b:=b.trans (f.mono b.size);clear f;obtain⟨G,I,J,C,F,H,E,D⟩:=ah.c8 B0;cases z
 .go_wp2;go_ret;exact⟨aH (by unfold dQ;rw[k.o];simp),b⟩
 .by_cases hnm:nm.toList = [];rotate_left
  .have y:=qh hnm;have x:nm.toList.isEmpty=false:=by cases h:nm.toList with
    | nil=>exact absurd h hnm
    | cons a r=>rfl
   clear hnm;go_wp2;go_ret;exact⟨aH (by unfold dQ;rw[if_pos (.inr (.inr ⟨by omega,y.o⟩))]),b⟩
  have x:nm.toList.isEmpty=true:=by rw[hnm];rfl
  have u:=qh (show dQ 4 op nm v n=aW n ((jm op).1:Nat) ((jm op).2:Nat) by
   unfold dQ;rw[if_neg (by rw[k.o];simp[hnm]),if_neg (by omega)];simp[aW])
  obtain⟨p,g⟩:=af ((jm op).1);obtain⟨m,d⟩:=af ((jm op).2);have s:=qh (a6 g d);have j:=qh (show arV op = .tuple #[aM aR (p:Nat),aM aR (m:Nat)] by unfold arV;rw[g,d]);clear hnm g d;go_wp2_with fail;refine (Ii op o).mono ?_;rw[j.o];rintro e t ⟨rfl,rfl⟩;go_wp2_with fail;refine (bG n p m o).mono ?_;rintro e t ⟨rfl,rfl⟩;go_wp2;go_ret;exact⟨aH (by rw[u.o,s.o.1,s.o.2]),b⟩
theorem abV (op:Int) (nm:ByteArray) (v:Val) (n:Nat) (A:Option Addr) (c:Nat) (A':Option Addr) (c':Nat) (w:World) (i:n<=maxLen) :
  CS 272 #[.agg (BC 5 op nm v A c A' n c')] w (a3 (dQ 5 op nm v n)):=by
 unfold maxLen at i;obtain⟨z,f⟩:=af (rX v);have g:=qh f;clear f;go_enter func272,ntmps272;go_wp2_with fail;obtain⟨W,d⟩:=aG ((w.alloc (.cells (BC 5 op nm v A c A' n c') 67 (0,0))));have a:DD w W:=by rw[d];exact ((Below.refl _ w).alloc (a5 _) _)
 have B0:ah W (w.heap.size) 67 (BC 5 op nm v A c A' n c'):=by
  rw[d];have:=ah.new w 67 (BC 5 op nm v A c A' n c');exact this
 have h:W.heap.size=w.heap.size+1:=by rw[d];simp
 rw[<- d];clear d h;refine (su v A c W).mono ?_;rw[g.o];rintro e k ⟨rfl,b⟩;have B0:=B0.below b B0.lt;have a:=a.trans (b.mono a.size);clear b;obtain⟨p,r,s,j,o,q,m,l⟩:=ah.c8 B0;cases z
 .go_wp2;go_ret;exact⟨aH (by unfold dQ;rw[g.o];simp),a⟩
 .go_wp2
  all_goals (go_ret;exact⟨aH (by have f:=g.o;unfold dQ;rw[f];simp;try (rw[a9];simp;omega)),a⟩)
theorem UB (k op:Int) (nm:ByteArray) (v:Val) (n:Nat) (A:Option Addr) (c:Nat) (A':Option Addr) (c':Nat) (w:World) (a:n<=maxLen) (d:1<=k) (b:k<=5) :
  CS 272 #[.agg (BC k op nm v A c A' n c')] w (a3 (dQ k op nm v n)):=by
 obtain rfl | rfl | rfl | rfl | rfl:k=1\/k=2\/k=3\/k=4\/k=5:=by omega
 .exact abR op nm v n A c A' c' w a
 .exact abS op nm v n A c A' c' w a
 .exact abT op nm v n A c A' c' w a
 .exact abU op nm v n A c A' c' w a
 .exact abV op nm v n A c A' c' w a
theorem UC {a b:Int} (h:(a != b)=false):a=b:=by simpa using h
theorem abW {op:Int} {nm:ByteArray} {v:Val} {n:Nat} (a:12<=op/\op<=14) (h:dQ 4 op nm v n=false):n=1:=by
 have e:jm op=(1,1):=by rcases (by omega:op=12\/op=13\/op=14) with rfl | rfl | rfl <;> rfl
 unfold dQ at h;rw[e] at h;split at h
 .cases h
 .simp at h;omega
theorem He (k op:Int) (nm:ByteArray) (v:Val) (n:Nat) (x:Int) (A:Option Addr) (c:Nat) (A':Option Addr) (c' B:Nat) (w:World) (q:nm.size<=maxLen) (l:v.s.size<=maxLen) (p:v.l.length<=maxLen) (hn:n<=maxLen)
  (d:Reads w B 1 A v.l.length (bK aR v.l)) (hB:B<=w.heap.size) (hA:0<n->∃ ad,A'=some ad/\ad.block<B/\w.cell? ad=some (aM aR x)) :
  CS 257 #[.agg (BC k op nm v A c A' n c')] w (aM aR (Eg k op nm v n x)):=by
 obtain⟨W,u⟩:=aG (w.alloc (.cells (BC k op nm v A c A' n c') 67 (0,0)));have o:DD w W:=u▸(Below.refl _ w).alloc (a5 _) _;have Y:ah W w.heap.size 67 (BC k op nm v A c A' n c'):=u▸ah.new w _ _;have O:=qh (show ∀ a,DD W a->a.cell? ⟨w.heap.size,0,none⟩=some (aM aR k)/\a.cell? ⟨w.heap.size,1,none⟩=some (aM aR op)/\a.cell? ⟨w.heap.size,2,none⟩=some (aZ nm)/\a.cell? ⟨w.heap.size,3,none⟩=some (aM aR v.k)/\a.cell? ⟨w.heap.size,4,none⟩=some (aM aR v.n)/\a.cell? ⟨w.heap.size,5,none⟩=some (aZ v.s)/\a.cell? ⟨w.heap.size,6,none⟩=some (a0 A v.l.length c)/\a.cell? ⟨w.heap.size,7,none⟩=some (a0 A' n c') from λ a f=>by
  have B:=Y.below f Y.lt;exact⟨B.cell 0,B.cell 1,B.cell 2,B.cell 3,B.cell 4,B.cell 5,B.cell 6,B.cell 7⟩)
 have b:=qh (Below.refl W.heap.size W);have HW:=qh o;have s:=qh (a6 d (a6 hB hA));have t:=qh (a6 q (a6 l (a6 p hn)));clear Y o d hB hA q l p hn;rcases ((Classical.em (aW k 1 5=true)).elim .inl (λ h=>.inr (by simp[aW] at h;omega)):aW k 1 5=true\/k=1\/k=2\/k=3\/k=4\/k=5) with g | rfl | rfl | rfl | rfl | rfl;rotate_left;have g:aW 1 1 5=false:=by decide
 cases d:dQ 1 op nm v n;cases z0:(v.k == 0);cases z1:(v.k == 1);rotate_left 4;have g:aW 2 1 5=false:=by decide
 cases d:dQ 2 op nm v n;cases f:aP nm.data.toList;rotate_left 3;have g:aW 3 1 5=false:=by decide
 cases d:dQ 3 op nm v n;cases f:aP nm.data.toList;rotate_left 3;have g:aW 4 1 5=false:=by decide
 cases h4:aW op 1 39;cases d:dQ 4 op nm v n;by_cases ha:12<=op/\op<=14;obtain rfl:=abW ha d;obtain⟨ad,rfl,ak,y⟩:=s.o.2.2 (by decide);have I:=qh (show ∀ a,DD W a->a.cell? ad=some (aM aR x) from λ a f=>Below.cell_of (HW.o.trans (f.mono HW.o.size)) y);have y:=I.o _ b.o;have qq:aW op 12 14=false:=oV ha.1 ha.2;cases hk2:(x != 2);rotate_left 2;have qq:aW op 12 14=true:=by simp[aW];omega
 have ae:(op == 12)=false:=beq_eq_false_iff_ne.2 (by omega);have am:(op == 13)=false:=beq_eq_false_iff_ne.2 (by omega);have aa:(op == 14)=false:=beq_eq_false_iff_ne.2 (by omega);rotate_left 3;have g:aW 5 1 5=false:=by decide
 cases h5:aW op 1 6;cases d:dQ 5 op nm v n;cases f:aP nm.data.toList
 all_goals
  try have X:=qh g
  try have S:=qh d
  try have z:=qh h4
  try have K:=qh h5
  try have D:=qh f
  try have U:=qh z0
  try have G:=qh z1
  try have H:=qh hk2
  try have V:=qh zz
  try have P:=qh o0
  try have M:=qh n0
  try have J:=qh ne
  try have T:=qh n1
  try have R:=qh ra
  try have E:=qh qq
  obtain⟨r0,r1,r2,r3,r4,r5,r6,r7⟩:=O.o _ b.o;go_enter func257,ntmps257;go_upto_region 1 with (fail);rw[<- u];clear u;go_wp2_with (first | (go_at_call 121;(refine (bG _ _ _ _).mono ?_);rintro _ N ⟨rfl,rfl⟩) | (go_at_call 272;(refine (UB _ op nm v _ A c _ c' _ t.o.2.2.2 (by decide) (by decide)).mono ?_);rintro _ N ⟨rfl,r⟩;have b:=qh (b.o.trans (r.mono b.o.size));obtain⟨r0,r1,r2,r3,r4,r5,r6,r7⟩:=O.o _ b.o;clear r;try have y:=I.o _ b.o) | (go_at_call 124;(refine (check_any v A c B _ t.o.2.2.1 t.o.2.1 (s.o.1.below ((HW.o.trans (b.o.mono HW.o.size)).mono s.o.2.1)) (a8 s.o.2.1 (HW.o.trans (b.o.mono HW.o.size)).size)).mono ?_);rintro _ N ⟨rfl,r⟩;have b:=qh (b.o.trans (r.mono b.o.size));obtain⟨r0,r1,r2,r3,r4,r5,r6,r7⟩:=O.o _ b.o;clear r;try have y:=I.o _ b.o) | (go_at_call 23;(refine (jE nm _ t.o.1).mono ?_);rintro _ N ⟨rfl,rfl⟩))
  all_goals
   go_ret
   try have Z:=X.o
   try have F:=S.o
   try have C:=z.o
   try have L:=K.o
   try have Q:=D.o
   try have i:=U.o
   try have j:=G.o
   try have m:=H.o
   try have ac:=V.o
   try have ab:=P.o
   try have ao:=M.o
   try have al:=J.o
   try have an:=T.o
   try have ap:=R.o
   try have ag:=E.o
   exact⟨aj (by unfold Eg;(try simp only[Z]);(try simp only[C]);(try simp only[L]);(try simp only[F]);(try simp only[Q]);(try have y0:=beq_iff_eq.1 i);(try have y0:=beq_eq_false_iff_ne.1 i);(try have y1:=beq_iff_eq.1 j);(try have y1:=beq_eq_false_iff_ne.1 j);(try have y2:=bne_iff_ne.1 m);(try have y2:=UC m);first | (simp[*];done) | (simp[*];omega)),HW.o.trans (b.o.mono HW.o.size)⟩
theorem Qa {w:World} {B:Nat} {l:List Ex} {A':Option Addr} {cs:List Value} (j:Reads w B 8 A' l.length cs) (e:∀ i (h:i<l.length),bC w B l[i] ((cs.drop (i*8)).take 8)) :
  0<l.length->∃ ad,A'=some ad/\ad.block<B/\w.cell? ad=some (aM aR (MC l)):=by
 intro h;obtain⟨ad,rfl,g,f⟩:=j.2 h;refine⟨ad,rfl,g,?_⟩;have c:=e 0 h;obtain⟨a,r,rfl⟩:∃ a r,l=a :: r:=by cases l with
  | nil=>simp at h
  | cons a r=>exact⟨a,r,rfl⟩
 have b:=f 0;rw[show ad.add 0=ad from rfl] at b;refine b _ ?_;generalize d:(cs.drop (0*8)).take 8=ci at c;obtain⟨-,-,-,-,-,-,-⟩:=c;have:((cs.drop (0*8)).take 8)[0]?=some (aM aR (MC (a :: r))):=by rw[d];rfl
 rw[bo,bw] at this;simpa using this
theorem Em (e:Ex):∀ (B:Nat) (cs:List Value) (w:World),bC w B e cs->B<=w.heap.size ->
  CS 235 #[.agg cs.toArray] w (aM aR e.fault):=by
 induction e using Ex.ind with
 | h e ih =>
  rintro B cs w z v;have aa:=qh z;obtain⟨hn,hs,hl,S,z,L,I⟩:=z;rename_i A c A' c' cs;have V:=qh (a6 L I);have HI:=qh ih;have HA:=qh S;have X:=qh (λ w' D Q =>He e.k e.op e.nm e.v e.ar.length (MC e.ar) A c A' c' B w' hn hs hl S (z.below D) Q (Qa (L.below D) (λ i h=>(I i h).keep D)));unfold maxLen at S;clear L I ih z;obtain⟨f,T⟩:=af (jw e);have M:=qh T;have s:=qh (Eh e);clear T;show Calls lM 235 #[.agg (Ag e A c A' e.ar.length c')] w _;go_enter func235,ntmps235;go_wp2_with fail;obtain⟨W,m⟩:=aG ((w.alloc (.cells (Ag e A c A' e.ar.length c') 67 (0,0))));have d:DD w W:=by rw[m];exact ((Below.refl _ w).alloc (a5 _) _)
  have B0:ah W (w.heap.size) 67 (Ag e A c A' e.ar.length c'):=by
   rw[m];have:=ah.new w 67 (Ag e A c A' e.ar.length c');exact this
  have N:W.heap.size=w.heap.size+1:=by rw[m];simp
  rw[<- m];clear m N;refine (X.o W (d.mono v) (a8 v d.size)).mono ?_;rw[show Eg e.k e.op e.nm e.v e.ar.length (MC e.ar)=f from M.o];rintro J w1 ⟨rfl,o⟩;have B0:=B0.below o B0.lt;have d:=d.trans (o.mono d.size);clear o X;obtain⟨fK,gJ,jC,jD,nJ,nK,nM,nN⟩:=ah.c8 B0;by_cases h0:f=0;rotate_left
  .have bf:(f != 0)=true:=by simpa using h0
   have E:=qh (s.o.trans (by rw[M.o,if_pos h0]));clear h0;go_wp2;go_ret;exact⟨aj (by rw[E.o]),d⟩
  subst h0;have E:=qh (show e.fault=mf e.ar from s.o.trans (by rw[M.o,if_neg (by omega)]));clear s;go_wp2;go_loopw [15] (λ i wr=>∃ k:Nat,k<=e.ar.length/\i = aM aR k/\Hid (mf e.ar=mf (e.ar.drop k))/\DD w wr) (λ i _=>e.ar.length - (intOf i).toNat)
  case atStart=>exact⟨0,bl _,rfl,qh rfl,d⟩
  case round =>
   obtain⟨k,hk,rfl,P,j⟩:=hrel;have U:=j.size;have Z:=j.mono v;by_cases hlt:k<e.ar.length
   .obtain⟨ad,ci,rfl,D,q,b⟩:=bC.arg (V.o.1.below Z) (λ i h=>(V.o.2 i h).keep Z) hlt;obtain⟨a,n⟩:=af (e.ar[k]);have t:a∈e.ar:=by rw[<- n];exact bk hlt
    obtain⟨g,O⟩:=af (a.fault);have G:=qh O;have DI:=qh (show mf (e.ar.drop k)=if g≠0 then g else mf (e.ar.drop (k+1)) by
     rw[bt hlt,n,mf,O])
    have aV:=qh hlt;have y:=qh (λ w' h1 h2=>HI.o a t B ci w' h1 h2);rw[n] at q;have qV:=qh q;obtain⟨ab,ac,ae,ak,K,R,H⟩:=q;rename_i A1 c1 Y C ag;have qi:wr.cell? (ad.add (k*8))=some (aM aR a.k):=b 0 _ rfl;have qW:wr.cell? ⟨(ad.add (k*8)).block,(ad.add (k*8)).off+1,none⟩=some (aM aR a.op):=b 1 _ rfl;have xE:wr.cell? ⟨(ad.add (k*8)).block,(ad.add (k*8)).off+2,none⟩=some (aZ a.nm):=b 2 _ rfl;have zX:wr.cell? ⟨(ad.add (k*8)).block,(ad.add (k*8)).off+3,none⟩=some (aM aR a.v.k):=b 3 _ rfl;have zY:wr.cell? ⟨(ad.add (k*8)).block,(ad.add (k*8)).off+4,none⟩=some (aM aR a.v.n):=b 4 _ rfl;have zZ:wr.cell? ⟨(ad.add (k*8)).block,(ad.add (k*8)).off+5,none⟩=some (aZ a.v.s):=b 5 _ rfl;have Aa:wr.cell? ⟨(ad.add (k*8)).block,(ad.add (k*8)).off+6,none⟩=some (a0 A1 a.v.l.length c1):=b 6 _ rfl;have Ac:wr.cell? ⟨(ad.add (k*8)).block,(ad.add (k*8)).off+7,none⟩=some (a0 Y a.ar.length C):=b 7 _ rfl;clear K R H b n t O;go_wp2_with fail;obtain⟨W,m⟩:=aG (wr.alloc (.cells (Ag a A1 c1 Y a.ar.length C) 67 (0,0)));have r:DD wr W:=m▸(Below.refl _ wr).alloc (a5 _) _;rw[<- m];have l:=j.trans (r.mono U);have x:=r.mono (a8 v U);clear m qi qW xE zX zY zZ Aa Ac;refine (y.o W (qV.o.keep x) (a8 v l.size)).mono ?_;rw[G.o];rintro J w3 ⟨rfl,u⟩;have d:=l.trans (u.mono l.size);clear u r x l y;by_cases hg0:g=0;rotate_left
    .have bg:(g != 0)=true:=by simpa using hg0
     have p:=qh (show e.fault=g by rw[E.o,P.o,DI.o,if_pos hg0]);clear hg0;go_wp2;go_ret;exact⟨aj (by rw[p.o]),d⟩
    subst hg0;have F:=qh (show mf e.ar=mf (e.ar.drop (k+1)) by rw[P.o,DI.o,if_neg (by omega)]);go_wp2;go_roundw
    case rel=>exact⟨k+1,aV.o,by go_num,F,d⟩
    case measure =>
     have:=aV.o;simp[intOf];omega
   .have p:=qh (show e.fault=0 by rw[E.o,P.o,List.drop_eq_nil_of_le (by omega)];rfl);go_wp2;go_ret;exact⟨aj (by rw[p.o]),j⟩
structure Two (w w':World) (p d:Nat):Prop where
 os:w'.os=w.os
 tape:w'.tape=w.tape
 output:w'.output=w.output
 size:w.heap.size<=w'.heap.size
 block:∀ i,i<w.heap.size->i≠p->i≠d->w'.heap[i]?=w.heap[i]?
theorem Two.refl (w:World) (p d:Nat):Two w w p d:=⟨rfl,rfl,rfl,a5 _,λ _ _ _ _=>rfl⟩
theorem Two.trans {a b c:World} {p d:Nat} (h:Two a b p d) (k:Two b c p d):Two a c p d:=
 ⟨k.os.trans h.os,k.tape.trans h.tape,k.output.trans h.output,a8 h.size k.size,λ i e g f=>(k.block i (bx e h.size) g f).trans (h.block i e g f)⟩
theorem Two.alloc {a w:World} {p d:Nat} (h:Two a w p d) (o:Obj):Two a (w.alloc o) p d:=
 ⟨h.os,h.tape,h.output,by rw[bd];exact Nat.le_succ_of_le h.size,λ i b e c=>(Below.heap_alloc w o i (bx b h.size)).trans (h.block i b e c)⟩
theorem Two.set {a w:World} {p d:Nat} (h:Two a w p d) {q:Addr} (c:q.block=p\/q.block=d) (u:Value):Two a (w.setCell q u) p d:=
 ⟨h.os,h.tape,h.output,by show _<=(w.setCell q u).heap.size;simp[World.setCell];exact h.size,λ i b g f=>(Below.heap_setCell w q u i (by rcases c with e | e <;> rw[e] <;> assumption)).trans (h.block i b g f)⟩
theorem Two.below {w w':World} {p d B:Nat} (h:Two w w' p d) (b:B<=p) (c:B<=d) (e:B<=w.heap.size):Below B w w':=
 ⟨h.os,h.tape,h.output,h.size,λ i a=>h.block i (by omega) (by omega) (by omega)⟩
theorem ah.two {w w':World} {p d g:Nat} {t:TypeId} {cs:Array Value} (h:ah w g t cs) (a:Two w w' p d) (c:g≠p) (b:g≠d):ah w' g t cs:=(a.block g h.lt c b).trans h
theorem MI (e:Ex):∀ lv (s:Nat × Nat),(e.meas lv s).1<=s.1+e.parts:=by
 induction e using Ex.ind with
 | h e ih =>
  intro lv s;rw[yP,parts_eq];split
  .show s.1+1<=_;omega
  .have:∀ (l:List Ex),(∀ a∈l,a∈e.ar)->∀ s:Nat × Nat,(eQ l (lv+1) s).1<=s.1+aJ l:=by
    intro l
    induction l with
    | nil=>intro _ s;rw[eQ,aJ];exact a5 _
    | cons a r ih2 =>
     intro h s;have g:=ih a (h a (bz ..)) (lv+1) s;have f:=ih2 (λ b d=>h b (bA _ d)) (a.meas (lv+1) s);rw[eQ,aJ];omega
   have:=this e.ar (λ a c=>c) (s.1+1,max s.2 lv);simp only at this;omega
theorem MJ (e:Ex):∀ lv (s:Nat × Nat),lv<=21->s.2<=21->(e.meas lv s).2<=21:=by
 induction e using Ex.ind with
 | h e ih =>
  intro lv s j g;rw[yP];split
  .show max s.2 lv<=_;omega
  .rename_i i;have:∀ (l:List Ex),(∀ a∈l,a∈e.ar)->∀ s:Nat × Nat,s.2<=21->(eQ l (lv+1) s).2<=21:=by
    intro l
    induction l with
    | nil=>intro _ s c;rw[eQ];exact c
    | cons a r ih2 =>
     intro h s c;rw[eQ];exact ih2 (λ b f=>h b (bA _ f)) _ (ih a (h a (bz ..)) (lv+1) s (by omega) c)
   exact this e.ar (λ a d=>d) _ (by show max s.2 lv<=_;omega)
theorem En (a:Ex) (lv:Nat):∀ (l:List Ex) (s:Nat × Nat),eQ (l ++ [a]) lv s=a.meas lv (eQ l lv s)
 | [],s=>by rw[List.nil_append,eQ,eQ,eQ]
 | b :: r,s=>by rw[List.cons_append,eQ,eQ,En a lv r]
theorem MK (l:List Ex) (lv:Nat) (s:Nat × Nat):∀ k,(eQ (l.take k) lv s).1<=s.1+aJ (l.take k):=by
 intro k;have:∀ (l:List Ex) (s:Nat × Nat),(eQ l lv s).1<=s.1+aJ l:=by
  intro l
  induction l with
  | nil=>intro s;rw[eQ,aJ];exact a5 _
  | cons a r ih =>
   intro s;have c:=MI a lv s;have b:=ih (a.meas lv s);rw[eQ,aJ];omega
 exact this _ s
theorem ML (l:List Ex) (lv:Nat) (s:Nat × Nat) (d:lv<=21) (c:s.2<=21):∀ k,(eQ (l.take k) lv s).2<=21:=by
 intro k;have:∀ (l:List Ex) (s:Nat × Nat),s.2<=21->(eQ l lv s).2<=21:=by
  intro l
  induction l with
  | nil=>intro s b;rw[eQ];exact b
  | cons a r ih =>
   intro s b;rw[eQ];exact ih _ (MJ a lv s d b)
 exact this _ s c
structure MeR (en:Ending) (w w':World) (pb db:Nat) (s:Nat × Nat):Prop where
 he:∃ v,en = a4 v
 two:Two w w' pb db
 hp:ah w' pb 3 #[aM aR (s.1:Nat)]
 hd:ah w' db 3 #[aM aR (s.2:Nat)]
theorem MM (e:Ex):∀ (B f db:Nat) (cs:List Value) (lv p d:Nat) (w:World),bC w B e cs->B<=w.heap.size->B<=f->B<=db->f≠db->ah w f 3 #[aM aR (p:Nat)]->ah w db 3 #[aM aR (d:Nat)] ->
  lv<=21->d<=21->p+e.parts<=1000000000000 ->
  Calls lM 234 #[.agg cs.toArray,aM aR (lv:Nat),a1 (some ⟨f,0,none⟩),a1 (some ⟨db,0,none⟩)] w λ en w'=>MeR en w w' f db (e.meas lv (p,d)):=by
 induction e using Ex.ind with
 | h e ih =>
  rintro B f db cs lv p d w hx hB V K ae j l ay hd hp;obtain⟨hn,hs,hl,ha,hx,hr,hi⟩:=hx;rename_i A c A' c' cs;have HR:=qh (a6 hr hi);have HI:=qh ih;have J:=parts_eq e;have ak:p+1<=1000000000000:=by omega
  have U:=qh (yP e lv (p,d));unfold maxLen at ha;clear hr hi ih hx;show Calls lM 234 #[.agg (Ag e A c A' e.ar.length c'),aM aR (lv:Nat),a1 (some ⟨f,0,none⟩),a1 (some ⟨db,0,none⟩)] w _;go_enter func234,ntmps234;go_upto_region 1 with (fail);obtain⟨W,F⟩:=aG (w.alloc (.cells (Ag e A c A' e.ar.length c') 67 (0,0)));have B0:ah W w.heap.size 67 (Ag e A c A' e.ar.length c'):=F▸ah.new w _ _;have aE:=j.lt;have ap:=l.lt;have j:=(F▸j.alloc _:ah W f 3 #[aM aR (p:Nat)]);have l:=(F▸l.alloc _:ah W db 3 #[aM aR (d:Nat)]);have T0:Two w W f db:=F▸(Two.refl w f db).alloc _;rw[<- F];clear F;have S:=qh J;clear J;have x:W.cell? ⟨f,0,none⟩=some (aM aR (p:Nat)):=j.cell 0;have pz:W.frozen? ⟨f,0,none⟩=false:=j.frozen 0;have dc:W.cell? ⟨db,0,none⟩=some (aM aR (d:Nat)):=l.cell 0;have dz:W.frozen? ⟨db,0,none⟩=false:=l.frozen 0;obtain⟨fK,gJ,jC,jD,nJ,nK,nM,nN⟩:=ah.c8 B0;go_upto_region 2 with (fail);obtain⟨u,n⟩:=aG (W.setCell ⟨f,0,none⟩ (aM aR ((p:Int)+1)));have B0:ah u w.heap.size 67 (Ag e A c A' e.ar.length c'):=n▸B0.far (p:=⟨f,0,none⟩) (by show w.heap.size≠f;omega) _;have j:ah u f 3 #[aM aR ((p:Int)+1)]:=n▸j.bP 0 _;have l:ah u db 3 #[aM aR (d:Nat)]:=n▸l.far (p:=⟨f,0,none⟩) (by show db≠f;omega) _;have T1:Two w u f db:=n▸T0.set (q:=⟨f,0,none⟩) (.inl rfl) _;rw[<- n];clear n T0 x pz dc dz fK gJ jC jD nJ nK nM nN;have x:u.cell? ⟨f,0,none⟩=some (aM aR ((p:Int)+1)):=j.cell 0;have dc:u.cell? ⟨db,0,none⟩=some (aM aR (d:Nat)):=l.cell 0;have dz:u.frozen? ⟨db,0,none⟩=false:=l.frozen 0;go_upto_region 3 with (fail);obtain⟨t,m⟩:=aG (u.setCell ⟨db,0,none⟩ (aM aR (max (d:Int) (lv:Int))));have B0:ah t w.heap.size 67 (Ag e A c A' e.ar.length c'):=m▸B0.far (p:=⟨db,0,none⟩) (by show w.heap.size≠db;omega) _;have j:ah t f 3 #[aM aR ((p:Int)+1)]:=m▸j.far (p:=⟨db,0,none⟩) (by show f≠db;omega) _;have l:ah t db 3 #[aM aR (max (d:Int) (lv:Int))]:=m▸l.bP 0 _;have T2:Two w t f db:=m▸T1.set (q:=⟨db,0,none⟩) (.inr rfl) _;rw[<- m];clear m T1 x dc dz;have j:ah t f 3 #[aM aR ((p+1:Nat):Int)]:=by rw[show ((p+1:Nat):Int)=(p:Int)+1 from by omega];exact j
  have l:ah t db 3 #[aM aR ((max d lv:Nat):Int)]:=by rw[show ((max d lv:Nat):Int)=max (d:Int) (lv:Int) from by omega];exact l
  have x:t.cell? ⟨f,0,none⟩=some (aM aR ((p+1:Nat):Int)):=j.cell 0;obtain⟨q,hq⟩:=af (p+1);obtain⟨g,hg⟩:=af (max d lv);have an:g<=21:=by omega
  rw[hq] at j x ak;rw[hg] at l;have Xd:=qh (show e.meas lv (p,d)=if 300<q\/20<lv then (q,g) else eQ e.ar (lv+1) (q,g) by rw[U.o,<- hq,<- hg]);have aD:q+aJ e.ar<=1000000000000:=by have:=S.o;omega
  clear U S hq hg;by_cases E:300<q
  .have b3:decide ((300:Int)<(q:Nat))=true:=by simp;omega
   have D:=qh (Xd.o.trans (if_pos (.inl E)));clear E;go_wp2;refine bodyPost_ret (v:=.tuple #[]) (by simp[results,results234,go_sem]) rfl ⟨⟨_,rfl⟩,T2,?_,?_⟩
   .rw[D.o];exact j
   .rw[D.o];exact l
  have b3:decide ((300:Int)<(q:Nat))=false:=by simp;omega
  by_cases h20:20<lv
  .have am:decide ((20:Int)<(lv:Nat))=true:=by simp;omega
   have D:=qh (Xd.o.trans (if_pos (.inr h20)));clear E h20;go_wp2;refine bodyPost_ret (v:=.tuple #[]) (by simp[results,results234,go_sem]) rfl ⟨⟨_,rfl⟩,T2,?_,?_⟩
   .rw[D.o];exact j
   .rw[D.o];exact l
  have am:decide ((20:Int)<(lv:Nat))=false:=by simp;omega
  have D:=qh (Xd.o.trans (if_neg (by omega)));have ar:lv<=20:=by omega
  clear E h20 Xd x;have x:t.cell? ⟨f,0,none⟩=some (aM aR (q:Nat)):=j.cell 0;obtain⟨fK,gJ,jC,jD,nJ,nK,nM,nN⟩:=ah.c8 B0;go_wp2;have Y:=qh j;have R:=qh l;clear x fK gJ jC jD nJ nK nM nN j l B0;go_loopw [33] (λ i wr=>∃ (k:Nat),k<=e.ar.length/\i = aM aR k/\Two w wr f db/\Hid (ah wr f 3 #[aM aR ((eQ (e.ar.take k) (lv+1) (q,g)).1:Nat)]/\ah wr db 3 #[aM aR ((eQ (e.ar.take k) (lv+1) (q,g)).2:Nat)])) (λ i _=>e.ar.length - (intOf i).toNat)
  case atStart=>exact⟨0,bl _,rfl,T2,qh ⟨Y.o,R.o⟩⟩
  case round =>
   obtain⟨k,hk,rfl,s,y⟩:=hrel;clear Y R T2;have mg:=s.size;have Aq:=s.below V K hB;by_cases hlt:k<e.ar.length
   .obtain⟨ad,ci,rfl,hb,z,b⟩:=bC.arg (HR.o.1.below Aq) (λ i h=>(HR.o.2 i h).keep Aq) hlt;obtain⟨a,r⟩:=af (e.ar[k]);have G:a∈e.ar:=by rw[<- r];exact bk hlt
    obtain⟨P,O⟩:=af (eQ (e.ar.take k) (lv+1) (q,g));obtain⟨P1,P2⟩:=P;have HS:=qh (show eQ (e.ar.take (k+1)) (lv+1) (q,g)=a.meas (lv+1) (P1,P2) by
     rw[bj hlt,En,r,O])
    have H:P1+a.parts<=1000000000000:=by
     have C:=MK e.ar (lv+1) (q,g) k;rw[O] at C;have h2:aJ (e.ar.take k)+a.parts=aJ (e.ar.take (k+1)):=by rw[bj hlt,Ce,r]
     have E:=MF e.ar (k+1);simp only at C;omega
    have ac:P2<=21:=by
     have C:=ML e.ar (lv+1) (q,g) (by omega) an k;rw[O] at C;exact C
    have aV:=qh hlt;rw[O] at y;rw[r] at z;have qV:=qh z;have X:=qh (λ w' C h2 E h4=>HI.o a G B f db ci (lv+1) P1 P2 w' C h2 V K ae E h4 (by omega) ac H);obtain⟨aq,av,aw,aL,ag,ao,ab⟩:=z;rename_i A1 c1 Ij Z ax;have qi:wr.cell? (ad.add (k*8))=some (aM aR a.k):=b 0 _ rfl;have qW:wr.cell? ⟨(ad.add (k*8)).block,(ad.add (k*8)).off+1,none⟩=some (aM aR a.op):=b 1 _ rfl;have xE:wr.cell? ⟨(ad.add (k*8)).block,(ad.add (k*8)).off+2,none⟩=some (aZ a.nm):=b 2 _ rfl;have zX:wr.cell? ⟨(ad.add (k*8)).block,(ad.add (k*8)).off+3,none⟩=some (aM aR a.v.k):=b 3 _ rfl;have zY:wr.cell? ⟨(ad.add (k*8)).block,(ad.add (k*8)).off+4,none⟩=some (aM aR a.v.n):=b 4 _ rfl;have zZ:wr.cell? ⟨(ad.add (k*8)).block,(ad.add (k*8)).off+5,none⟩=some (aZ a.v.s):=b 5 _ rfl;have Aa:wr.cell? ⟨(ad.add (k*8)).block,(ad.add (k*8)).off+6,none⟩=some (a0 A1 a.v.l.length c1):=b 6 _ rfl;have Ac:wr.cell? ⟨(ad.add (k*8)).block,(ad.add (k*8)).off+7,none⟩=some (a0 Ij a.ar.length Z):=b 7 _ rfl;clear ag ao ab b r G O H;go_wp2_with fail;obtain⟨W3,o⟩:=aG (wr.alloc (.cells (Ag a A1 c1 Ij a.ar.length Z) 67 (0,0)));have T3:Two w W3 f db:=o▸s.alloc _;have T:ah W3 f 3 #[aM aR (P1:Nat)]:=o▸y.o.1.alloc _;have Q:ah W3 db 3 #[aM aR (P2:Nat)]:=o▸y.o.2.alloc _;have L:DD wr W3:=o▸(Below.refl _ wr).alloc (a5 _) _;rw[<- o];clear o qi qW xE zX zY zZ Aa Ac;rw[show ((lv:Nat):Int)+1=((lv+1:Nat):Int) from by omega];refine (X.o W3 (qV.o.keep (L.mono (by omega))) (by have:=T3.size;omega) T Q).mono ?_;rintro en w4 ⟨⟨v0,rfl⟩,T4,I,N⟩;have al:=T3.trans T4;have aa:=qh (a6 I N);clear T3 T4 T Q I N L X y;go_wp2;go_roundw
    case rel=>exact⟨k+1,aV.o,by go_num,al,by rw[HS.o];exact aa⟩
    case measure =>
     have:=aV.o;simp[intOf];omega
   .have M:e.ar.take k=e.ar:=bv (by omega);rw[M,<- D.o] at y;clear M;go_wp2;refine bodyPost_end (v:=.tuple #[]) (by simp[results,results234,go_sem]) rfl ⟨⟨_,rfl⟩,s,y.o.1,y.o.2⟩
theorem mX (e:Ex) (B:Nat) (cs:List Value) (w:World) (j:bC w B e cs) (o:B<=w.heap.size) (S:e.parts<=100000000) :
  CS 211 #[.agg cs.toArray] w (aM aR (dR e)):=by
 have r:=qh j;obtain⟨R,Q,U,V,j,E,v⟩:=j;rename_i A c A' c' cs;clear j E v;have M:=qh (Xx e);have u:=MI e 1 (0,0);have t:=MJ e 1 (0,0) (by omega) (by simp);obtain⟨P,l⟩:=af (e.meas 1 (0,0));have s:=qh l;rw[l] at u t;obtain⟨p,d⟩:=P;simp only[Nat.zero_add] at u t;clear l;show Calls lM 211 #[.agg (Ag e A c A' e.ar.length c')] w _;go_enter func211,ntmps211;go_wp2_with fail;obtain⟨W,b⟩:=aG ((((w.alloc (.cells (Ag e A c A' e.ar.length c') 67 (0,0))).alloc (a2 #[aM aR 0] 3 (0,0))).alloc (a2 #[aM aR 0] 3 (0,0))));have a:DD w W:=by rw[b];exact ((((Below.refl _ w).alloc (a5 _) _).alloc (by simp) _).alloc (by simp;omega) _)
 have B0:ah W (w.heap.size) 67 (Ag e A c A' e.ar.length c'):=by
  rw[b];have:=ah.new w 67 (Ag e A c A' e.ar.length c');have:=this.alloc (a2 #[aM aR 0] 3 (0,0));have:=this.alloc (a2 #[aM aR 0] 3 (0,0));exact this
 have B1:ah W (w.heap.size+1) 3 #[aM aR 0]:=by
  rw[b];have:=ah.new (w.alloc (.cells (Ag e A c A' e.ar.length c') 67 (0,0))) 3 #[aM aR 0];have:=this.alloc (a2 #[aM aR 0] 3 (0,0))
  rwa [bd] at this
 have B2:ah W (w.heap.size+2) 3 #[aM aR 0]:=by
  rw[b];have:=ah.new ((w.alloc (.cells (Ag e A c A' e.ar.length c') 67 (0,0))).alloc (a2 #[aM aR 0] 3 (0,0))) 3 #[aM aR 0]
  rwa [bd,bd] at this
 have K:W.heap.size=w.heap.size+3:=by rw[b];simp
 rw[<- b];refine (MM e B (w.heap.size+1) (w.heap.size+2) _ 1 0 0 W (r.o.keep (a.mono o)) (by omega) (by omega) (by omega) (by omega) B1 B2 (by omega) (by omega) (by omega)).mono ?_;rw[s.o];rintro k i ⟨⟨v0,rfl⟩,T,I,J⟩;have a:=a.trans (T.below (by omega) (by omega) a.size);have B0:=B0.two T (by omega) (by omega);have q:W.heap.size<=i.heap.size:=T.size;clear b T B1 B2;have N:i.cell? ⟨w.heap.size+1,0,none⟩=some (aM aR (p:Nat)):=I.cell 0;have G:i.cell? ⟨w.heap.size+2,0,none⟩=some (aM aR (d:Nat)):=J.cell 0;obtain⟨D,H,L,x,C,F,z,y⟩:=ah.c8 B0;have m:=qh (show (300<p\/20<d) ↔ (300<e.parts\/20<e.depth) by have h:=M.o;rw[s.o] at h;exact h);by_cases h3:300<p
 .have b3:decide ((300:Int)<(p:Nat))=true:=by simp;omega
  have f:=qh (show dR e=2 by unfold dR;rw[if_pos (m.o.1 (.inl h3))]);clear h3;go_wp2;go_ret;exact⟨aj (by rw[f.o]),a⟩
 have b3:decide ((300:Int)<(p:Nat))=false:=by simp;omega
 by_cases h20:20<d
 .have n:decide ((20:Int)<(d:Nat))=true:=by simp;omega
  have f:=qh (show dR e=2 by unfold dR;rw[if_pos (m.o.1 (.inr h20))]);clear h3 h20;go_wp2;go_ret;exact⟨aj (by rw[f.o]),a⟩
 have n:decide ((20:Int)<(d:Nat))=false:=by simp;omega
 have f:=qh (show dR e=e.fault by unfold dR;rw[if_neg (λ h=>by have:=m.o.2 h;omega)]);clear h3 h20;go_wp2_with fail;refine (Em e B _ i (r.o.keep (a.mono o)) (a8 o a.size)).mono ?_;rintro k O ⟨rfl,g⟩;have a:=a.trans (g.mono a.size);clear g N G D H L x C F z y;go_wp2;go_ret;exact⟨aj (by rw[f.o]),a⟩
def dP (l:List ByteArray):List Value:=l.map Value.string
theorem MN (l:List ByteArray):(dP l).length=l.length:=by simp[dP]
theorem Xz {l:List ByteArray} {k:Nat} {u:Value} (h:(dP l)[k]?=some u):∃ h:k<l.length,u = aZ l[k]:=by
 unfold dP at h;rw[bp] at h;rcases hk:l[k]? with _ | x
 .rw[hk] at h;simp at h
 .rw[hk] at h;simp at h;obtain⟨b,a⟩:=List.getElem?_eq_some_iff.1 hk;exact⟨b,by rw[a,h]⟩
theorem Reads.plain {w:World} {B n:Nat} {A:Option Addr} {xs:List Value} (h:Reads w B 1 A n xs) (i:0<n):∃ b o,A=some ⟨b,o,none⟩/\b<B/\∀ j u,xs[j]?=some u->w.cell? ⟨b,o+j,none⟩=some u:=by
 obtain⟨ad,rfl,g,c⟩:=h.2 i;have k:0<xs.length:=by have:=h.1;omega
 have a:=c 0 _ (be k);obtain⟨b,o,s⟩:=ad;have d:s=none:=by
  cases s with
  | none=>rfl
  | some z =>
   rw[show Addr.add ⟨b,o,some z⟩ 0=⟨b,o,some z⟩ from rfl] at a;unfold World.cell? at a;simp at a;split at a <;> simp at a
 subst d;refine⟨b,o,rfl,g,λ j u f=>?_⟩;have:=c j u f;unfold Addr.add at this;split at this
 .rename_i e;subst e;exact this
 .exact this
abbrev dA (w:World) (B:Nat) (A:Option Addr) (l:List ByteArray):Prop:=Reads w B 1 A l.length (dP l)
theorem dA.cells {w:World} {b o:Nat} {l:List ByteArray} (h:∀ j u,(dP l)[j]?=some u->w.cell? ⟨b,o+j,none⟩=some u):∀ j,j<l.length->w.cell? ⟨b,o+j,none⟩=some (aZ (l.getD j ByteArray.empty)):=by
 intro j a;refine h j _ ?_;unfold dP;rw[bp,be a];simp[List.getD,a]
theorem sD (A B:Option Addr) (c d B1 B2:Nat) (xs a:List ByteArray) (w:World) (r:xs.length<=maxLen) (l:a.length<=maxLen) (j:dA w B1 A xs) (o:dA w B2 B a) :
  CS 16 #[a0 A xs.length c,a0 B a.length d] w (a3 (decide (xs=a))):=by
 unfold maxLen at r l;by_cases hl:xs.length=a.length
 .rcases bc xs.length with g | g
  .have i:=ba g;have p:=ba (hl.symm.trans g);subst i p;exact (Tryz.slices_Equal_string_empty A B c 0 d w (by decide)).mono λ _ _ ⟨b,f⟩=>⟨by rw[b];rfl,f▸Below.refl _ _⟩
  .obtain⟨b1,k,rfl,-,n⟩:=j.plain g;obtain⟨b2,h,rfl,-,m⟩:=o.plain (by omega);refine (Tryz.slices_Equal_string b1 k xs.length c b2 h a.length d xs a w (a5 _) (a5 _) (by omega) (by omega) (dA.cells n) (dA.cells m)).mono λ _ _ ⟨b,q,f⟩=>⟨by rw[b,bq,bq],f▸(Below.refl _ _).drewN q⟩
 .exact (Tryz.slices_Equal_string_lens A B xs.length c a.length d w hl).mono λ _ _ ⟨b,f⟩=>⟨by rw[b,show decide (xs=a)=false from decide_eq_false (λ e=>hl (by rw[e]))],f▸Below.refl _ _⟩
theorem uy (A:Option Addr) (c B1:Nat) (xs:List ByteArray) (s:ByteArray) (w:World) (j:xs.length<=maxLen) (g:dA w B1 A xs) :
  E5 90 #[a0 A xs.length c,aZ s] w (a3 (Lib.containsS xs s)):=by
 unfold maxLen at j;rcases bc xs.length with b | b
 .have f:=ba b;subst f;exact (Tryz.slices_Contains_string_empty A c s w).mono λ _ _ ⟨a,d⟩=>⟨by rw[a];rfl,d.symm⟩
 .obtain⟨b1,h,rfl,-,i⟩:=g.plain b;refine (Tryz.slices_Contains_string b1 h xs.length c xs s w (a5 _) (by omega) (dA.cells i)).mono λ _ _ ⟨a,d⟩=>⟨?_,d.symm⟩;rw[a,bq]
def R0 (v:Value):Option (DataW Value × List MemPlace):=some (.held v,[])
def di (kv:List (ByteArray × Value)) (s:ByteArray):Option Value:=match kv with
 | []=>none
 | p :: r=>if p.1=s then some p.2 else di r s
structure aO (w:World) (b:Nat) (kv:List (ByteArray × Value)):Prop where
 ex:∃ D,w.ownsMap lM 9 R0 b kv.length D/\Maps.IsMap D/\∀ (s:ByteArray) zd,D.atKey (.string s.data.toList) zd=(match di kv s with | some v=>.held v | none=>zd)
theorem keyS {s:ByteArray} (h:s.size<=maxLen):keyOf lM 9 (.string s)=some (.string s.data.toList):=WideMaps.keyOf_string_mk underlying9 h
theorem aO.made (w:World):aO (w.alloc (.map #[] 0)) w.heap.size []:=⟨⟨.map [],World.ownsMap_made w _ _ _,Maps.isMap_empty,λ _ _=>rfl⟩⟩
theorem aO.lt {w:World} {b:Nat} {a:List (ByteArray × Value)} (h:aO w b a):b<w.heap.size:=h.ex.choose_spec.1.lt
theorem aO.kept {w w':World} {b:Nat} {kv:List (ByteArray × Value)} {a:Option Nat} (h:aO w b kv) (d:w.grownBy w' a) (c:some b≠a):aO w' b kv:=by
 obtain⟨D,f,e,g⟩:=h.ex;exact⟨⟨D,f.kept d c,e,g⟩⟩
theorem aO.same {w w':World} {b:Nat} {kv:List (ByteArray × Value)} (h:aO w b kv) (f:w'.heap[b]?=w.heap[b]?):aO w' b kv:=by
 obtain⟨D,⟨g,a,d,e⟩,c,i⟩:=h.ex;exact⟨⟨D,⟨g,a,f.trans d,e⟩,c,i⟩⟩
theorem aO.alloc {w:World} {b:Nat} {kv:List (ByteArray × Value)} (h:aO w b kv) (o:Obj):aO (w.alloc o) b kv:=h.same (Below.heap_alloc w o b h.lt)
theorem aO.setCell {w:World} {b:Nat} {kv:List (ByteArray × Value)} (h:aO w b kv) {p:Addr} (a:b≠p.block) (u:Value):aO (w.setCell p u) b kv:=h.same (Below.heap_setCell w p u b a)
theorem aO.below {w w':World} {b B:Nat} {kv:List (ByteArray × Value)} (h:aO w b kv) (c:Below B w w') (a:b<B):aO w' b kv:=h.same (c.block b a)
theorem aO.look {w:World} {b:Nat} {d:List (ByteArray × Value)} (h:aO w b d) {t e:TypeId} (j:lM.underlying t=some (.map 9 e)) {z:Value} (l:(zeroValue e).run lM w = .ok z w) {s:ByteArray} (m:s.size<=maxLen) :
  (bb t (.map (some b)) (aZ s) true).run lM w = .ok (.tuple #[(di d s).getD z,a3 (di d s).isSome]) w:=by
 obtain⟨D,n,o,g⟩:=h.ex;obtain⟨v,ps,c,i⟩:=n.look_ok (Maps.string_keyed underlying9) j l (zd:=.held z) (zp:=[]) rfl (keyS m);rw[c];have k:=g s (.held z);have a:(DataW.held v:DataW Value)=D.atKey (.string s.data.toList) (.held z):=by
  unfold R0 at i;exact (Prod.mk.inj (Option.some.inj i)).1
 rw[k] at a;cases hg:di d s with
 | none =>
  rw[hg] at a;have f:Maps.has D (.string s.data.toList)=false:=Maps.has_false_of_atKey (λ zd=>by rw[g s zd,hg]);rw[f];rw[DataW.held.inj a];rfl
 | some u =>
  rw[hg] at a;have f:Maps.has D (.string s.data.toList)=true:=Maps.has_true_of_atKey (y:=.held u) (λ zd=>by rw[g s zd,hg]);rw[f];rw[DataW.held.inj a];rfl
theorem aO.store {w':World} {b:Nat} {c:List (ByteArray × Value)} {D:DataW Value} {s:ByteArray} {v:Value} (d:Maps.IsMap D) (g:∀ (s:ByteArray) zd,D.atKey (.string s.data.toList) zd=(match di c s with | some v=>.held v | none=>zd))
  (a:w'.ownsMap lM 9 R0 b (c.length+1) (D.put (.string s.data.toList) (.held v))):aO w' b ((s,v) :: c):=by
 refine⟨⟨_,a,d.put _ _,λ t zd=>?_⟩⟩;rw[di];by_cases h:s=t
 .subst h;rw[if_pos rfl,Maps.atKey_put_same d (show WideAt.IsKeyLit (.string _) from trivial)]
 .rw[if_neg h,Maps.atKey_put_other (λ e=>h ?_),g t zd];have f:t.data.toList=s.data.toList:=by injection e
  exact (ByteArray.ext (Array.toList_inj.1 f)).symm
theorem iT {w:World} {f:Array Oper} {c:List Oper} {o:Oper} {a:Act} {Q:Exit->Act->World->Prop} (A:o.guard=none) (m x v:Operand) (t e:TypeId) (h:o.op=Op.mapUpdate t m x v)
  (j:lM.underlying t=some (.map 9 e)) {b:Nat} {g:List (ByteArray × Value)} {s:ByteArray} {val:Value} (p:a.eval m = .map (some b)) (d:aO w b g) (y:g.length<maxLen) (k:a.eval x = .string s) (i:a.eval v=val) (r:s.size<=maxLen)
  (B:∀ w',aO w' b ((s,val) :: g)->w.grownBy w' (some b)->wpList lM f Q c (a.put o.dst undef) w') :
  wpList lM f Q (o :: c) a w:=by
 obtain⟨D,u,q,z⟩:=d.ex;exact wpList_mapUpdate_own w A m x v t h 9 e (Maps.string_keyed underlying9) j R0 b g.length D p u y (.string s) val (.string s.data.toList) k i (keyS r) (.held val) [] rfl
  (λ w' l n=>B w' (aO.store q z l) n)
def aF {α:Type} (P:World->Nat->α->List Value->Prop) (size:Nat) (w:World) (B:Nat) (A:Option Addr) (l:List α):Prop:=
 l.length<=maxLen/\∃ cs,Reads w B size A l.length cs/\∀ i (h:i<l.length),P w B l[i] ((cs.drop (i*size)).take size)
section
variable {α:Type} {P:World->Nat->α->List Value->Prop} {size B:Nat} {w w':World} {A:Option Addr} {l:List α}
theorem aF.at_ (h:aF P size w B A l) {i:Nat} (c:i<l.length):∃ ad b,A=some ad/\ad.block<B/\P w B l[i] b/\∀ j u,b[j]?=some u->w.cell? ((ad.add (i*size)).add j)=some u:=by
 obtain⟨-,cs,g,d⟩:=h;obtain⟨ad,rfl,f,e⟩:=g.2 (by omega);refine⟨ad,_,rfl,f,d i c,λ j u a=>?_⟩;rw[oQ];refine e _ u ?_;rw[bo] at a;split at a
 .rw[bw] at a;exact a
 .cases a
theorem aF.keep (a:∀ d cs,P w B d cs->P w' B d cs) (h:aF P size w B A l) (f:Below B w w'):aF P size w' B A l:=by
 obtain⟨e,cs,g,c⟩:=h;exact⟨e,cs,g.below f,λ i b=>a _ _ (c i b)⟩
end
structure bU where
 nm:ByteArray
 loops:List ByteArray
structure bu where
 nm:ByteArray
 kind:Int
 loops:List ByteArray
structure nO (w:World) (B:Nat) (d:bU) (cs:List Value):Prop where
 ex:∃ A c,cs = [aZ d.nm,a0 A d.loops.length c]/\dA w B A d.loops/\d.loops.length<=c
 h1:d.nm.size<=maxLen
 h2:d.loops.length<=maxLen
 h3:∀ s∈d.loops,s.size<=maxLen
structure nP (w:World) (B:Nat) (d:bu) (cs:List Value):Prop where
 ex:∃ A c,cs = [aZ d.nm,aM aR d.kind,a0 A d.loops.length c]/\dA w B A d.loops/\d.loops.length<=c
 h1:d.nm.size<=maxLen
 h2:d.loops.length<=maxLen
 h3:∀ s∈d.loops,s.size<=maxLen
theorem nO.keep {w w':World} {B:Nat} {d:bU} {cs:List Value} (h:nO w B d cs) (i:Below B w w'):nO w' B d cs:=by
 obtain⟨⟨A,c,e,a,f⟩,g,b,j⟩:=h;exact⟨⟨A,c,e,a.below i,f⟩,g,b,j⟩
theorem nP.keep {w w':World} {B:Nat} {d:bu} {cs:List Value} (h:nP w B d cs) (i:Below B w w'):nP w' B d cs:=by
 obtain⟨⟨A,c,e,a,f⟩,g,b,j⟩:=h;exact⟨⟨A,c,e,a.below i,f⟩,g,b,j⟩
abbrev qj:=aF nO 2
abbrev eX:=aF nP 3
theorem qj.keep {w w':World} {B:Nat} {A:Option Addr} {l:List bU} (h:qj w B A l) (a:Below B w w'):qj w' B A l:=aF.keep (λ _ _ h=>h.keep a) h a
theorem eX.keep {w w':World} {B:Nat} {A:Option Addr} {l:List bu} (h:eX w B A l) (a:Below B w w'):eX w' B A l:=aF.keep (λ _ _ h=>h.keep a) h a
theorem dA.take {w:World} {B:Nat} {A:Option Addr} {l:List ByteArray} (h:dA w B A l) (k:Nat):dA w B A (l.take k):=by
 refine⟨by rw[MN];simp,λ f=>?_⟩;have d:(l.take k).length<=l.length:=List.length_take_le' _ _;obtain⟨ad,e,c,b⟩:=h.2 (by omega);refine⟨ad,e,c,λ j u a=>b j u ?_⟩;unfold dP at a ⊢;rw[List.map_take,bo] at a;split at a
 .exact a
 .cases a
def jy (loops:List bU) (at_:List ByteArray):Bool:=match at_.getLast? with
 | none=>true
 | some z=>loops.any (λ n=>decide (n.nm=z) && decide (n.loops=at_.dropLast))
def bZ (prev:List bu) (c:bu):Int:=if aP c.nm.data.toList=false then 5 else if prev.any (λ d=>decide (d.nm=c.nm))=true then 6 else if aW c.kind 2 7=true then 4 else 0
def cO (prev:List bU) (n:bU):Int:=if aP n.nm.data.toList=false then 5 else if prev.any (λ d=>decide (d.nm=n.nm))=true then 6 else if jy prev n.loops=false then 7 else 0
def fM {α:Type} (f:List α->α->Int):List α->List α->Int
 | _,[]=>0
 | prev,a :: r=>if f prev a≠0 then f prev a else fM f (prev ++ [a]) r
def fO (cells:List bu) (loops:List bU):Int:=
 if fM bZ [] cells≠0 then fM bZ [] cells else if fM cO [] loops≠0 then fM cO [] loops else
 if cells.any (λ c=>!jy loops c.loops)=true then 9 else 0
structure Lr (w:World) (B:Nat) (kv:List (ByteArray × Value)) (l:List bU):Prop where
 no:∀ s,di kv s=none->∀ d∈l,d.nm≠s
 yes:∀ s v,di kv s=some v->∃ d cs,d∈l/\d.nm=s/\v = .agg cs.toArray/\nO w B d cs
 len:kv.length=l.length
 one:l.Pairwise (λ a b=>a.nm≠b.nm)
structure MO (w:World) (B:Nat) (kv:List (ByteArray × Value)) (l:List bu):Prop where
 no:∀ s,di kv s=none->∀ d∈l,d.nm≠s
 yes:∀ s v,di kv s=some v->∃ d cs,d∈l/\d.nm=s/\v = .agg cs.toArray/\nP w B d cs
 len:kv.length=l.length
 one:l.Pairwise (λ a b=>a.nm≠b.nm)
theorem Lr.keep {w w':World} {B:Nat} {a:List (ByteArray × Value)} {l:List bU} (h:Lr w B a l) (g:Below B w w'):Lr w' B a l:=
 ⟨h.no,λ s v b=>by obtain⟨d,cs,f,c,i,e⟩:=h.yes s v b;exact⟨d,cs,f,c,i,e.keep g⟩,h.len,h.one⟩
theorem MO.keep {w w':World} {B:Nat} {a:List (ByteArray × Value)} {l:List bu} (h:MO w B a l) (g:Below B w w'):MO w' B a l:=
 ⟨h.no,λ s v b=>by obtain⟨d,cs,f,c,i,e⟩:=h.yes s v b;exact⟨d,cs,f,c,i,e.keep g⟩,h.len,h.one⟩
theorem Lr.nil (w:World) (B:Nat):Lr w B [] []:=⟨(λ _ _ d b=>by cases b),(λ s v a=>by cases a),rfl,List.Pairwise.nil⟩
theorem MO.nil (w:World) (B:Nat):MO w B [] []:=⟨(λ _ _ d b=>by cases b),(λ s v a=>by cases a),rfl,List.Pairwise.nil⟩
theorem Lr.add {w:World} {B:Nat} {g:List (ByteArray × Value)} {l:List bU} (h:Lr w B g l) {d:bU} {cs:List Value} (u:nO w B d cs) (r:di g d.nm=none):Lr w B ((d.nm,.agg cs.toArray) :: g) (l ++ [d]):=by
 refine⟨λ s f x o=>?_,λ s v c=>?_,by simp[h.len],?_⟩
 .rw[di] at f;split at f
  .cases f
  .rename_i i;rcases bB.1 o with e | e
   .exact h.no s f x e
   .rw[bh] at e;subst e;exact i
 .rw[di] at c;split at c
  .rename_i n;injection c with c;exact⟨d,cs,by simp,n,c.symm,u⟩
  .obtain⟨m,j,e,q,t,p⟩:=h.yes s v c;exact⟨m,j,bE _ e,q,t,p⟩
 .rw[bL];refine⟨h.one,bN _ _,λ a y b k=>?_⟩;rw[bh] at k;subst k;exact h.no _ r a y
theorem MO.add {w:World} {B:Nat} {g:List (ByteArray × Value)} {l:List bu} (h:MO w B g l) {d:bu} {cs:List Value} (u:nP w B d cs) (r:di g d.nm=none):MO w B ((d.nm,.agg cs.toArray) :: g) (l ++ [d]):=by
 refine⟨λ s f x o=>?_,λ s v c=>?_,by simp[h.len],?_⟩
 .rw[di] at f;split at f
  .cases f
  .rename_i i;rcases bB.1 o with e | e
   .exact h.no s f x e
   .rw[bh] at e;subst e;exact i
 .rw[di] at c;split at c
  .rename_i n;injection c with c;exact⟨d,cs,by simp,n,c.symm,u⟩
  .obtain⟨m,j,e,q,t,p⟩:=h.yes s v c;exact⟨m,j,bE _ e,q,t,p⟩
 .rw[bL];refine⟨h.one,bN _ _,λ a y b k=>?_⟩;rw[bh] at k;subst k;exact h.no _ r a y
theorem Ju {α:Type} {f:α->ByteArray} {l:List α} (h:l.Pairwise (λ a b=>f a≠f b)) {a b:α} (g:a∈l) (i:b∈l) (e:f a=f b):a=b:=by
 induction l with
 | nil=>cases g
 | cons x r ih =>
  rw[List.pairwise_cons] at h;rcases bi.1 g with c | c <;> rcases bi.1 i with d | d
  .rw[c,d]
  .subst c;exact absurd e (h.1 b d)
  .subst d;exact absurd e.symm (h.1 a c)
  .exact ih h.2 c d
theorem Qb {w:World} {B:Nat} {a:List (ByteArray × Value)} {l:List bU} (h:Lr w B a l) {at_:List ByteArray} {z:ByteArray} (g:at_.getLast?=some z) :
  (di a z=none/\jy l at_=false)\/∃ d cs,di a z=some (.agg cs.toArray)/\nO w B d cs/\d∈l/\jy l at_=decide (d.loops=at_.dropLast):=by
 cases hg:di a z with
 | none =>
  refine .inl ⟨rfl,?_⟩;unfold jy;rw[g];simp only;rw[bO];intro d n;have:=h.no z hg d n;simp[this]
 | some v =>
  obtain⟨d,cs,c,i,m,k⟩:=h.yes z v hg;refine .inr ⟨d,cs,by rw[m],k,c,?_⟩;unfold jy;rw[g];simp only;rw[a9,bR,decide_eq_true_iff];constructor
  .rintro ⟨x,j,b⟩;rw[bS,decide_eq_true_iff,decide_eq_true_iff] at b;have:=Ju (f:=bU.nm) h.one j c (by rw[b.1,i]);subst this;exact b.2
  .intro e;exact⟨d,c,by rw[bS,decide_eq_true_iff,decide_eq_true_iff];exact⟨i,e⟩⟩
theorem MP {α:Type} {f:α->ByteArray} {l:List α} {s:ByteArray} (h:∀ d∈l,f d≠s):l.any (λ d=>decide (f d=s))=false:=by
 rw[bO];intro d a;simpa using h d a
theorem Ik {α:Type} {f:α->ByteArray} {l:List α} {s:ByteArray} {d:α} (a:d∈l) (h:f d=s):l.any (λ d=>decide (f d=s))=true:=bR.2 ⟨d,a,by simpa using h⟩
end
open Go.RowKit
attribute [local go_sem ↓] Go.wp_at_zero Go.wp_at_succ
theorem qZ (w:World):(zeroValue 184).run lM w = .ok (.agg #[aZ ⟨#[]⟩,a0 none 0 0]) w:=by kernel_rfl
theorem abY {l:List ByteArray} (h:0<l.length):∃ z,l.getLast?=some z/\l[l.length - 1]?=some z:=by
 have a:l.length - 1<l.length:=by omega
 refine⟨l[l.length - 1],?_,be a⟩;rw[List.getLast?_eq_getElem?];exact be a
theorem xR (at_:List ByteArray) (A:Option Addr) (c M j B:Nat) (kv:List (ByteArray × Value)) (l:List bU) (w:World) (ha:at_.length<=maxLen) (Y:∀ s∈at_,s.size<=maxLen) (hx:dA w B A at_) (hc:at_.length<=c) (hB:B<=w.heap.size) (Z:aO w j kv) (G:Lr w B kv l) :
  CS 122 #[.agg #[.map (some M),.map (some j)],a0 A at_.length c] w (a3 (jy l at_)):=by
 have L:=qh (a6 hx hB);have HM:=qh Z;have V:=qh G;have HS:=qh Y;have HA:=qh ha;have ae:((at_.length:Nat):Int) - 1<=(c:Nat):=by omega
 unfold maxLen at ha;clear hx hB Z G Y;rcases bc at_.length with y | y
 .have e1:=ba y;subst e1;clear y;go_enter func122,ntmps122;go_wp2_with (fail);go_ret;exact⟨rfl,(Below.refl _ _).alloc (a5 _) _⟩
 .obtain⟨z,X,v⟩:=abY y;obtain⟨b,o,rfl,hb,n⟩:=L.o.1.plain y;have x:w.cell? ⟨b,o+(at_.length - 1),none⟩=some (aZ z):=n _ _ (by unfold dP;rw[bp,v];rfl);have K:z.size<=maxLen:=HS.o z (List.mem_of_getElem? v);have HN:=qh (Qb V.o X);have ab:(1:Int)<=(at_.length:Nat):=by omega
  have bn:((at_.length:Int) == 0)=false:=by rw[beq_eq_false_iff_ne];omega
  clear n X v;have R:b<w.heap.size:=by have:=L.o.2;omega
  have O:=qh L.o;clear L;go_enter func122,ntmps122;go_upto_region 3 with (fail);obtain⟨W,E⟩:=aG ((w.alloc (a2 #[.map (some M),.map (some j)] 162 (0,0))));have i:DD w W:=by rw[E];exact ((Below.refl _ w).alloc (a5 _) _)
  have B0:ah W (w.heap.size) 162 #[.map (some M),.map (some j)]:=by
   rw[E];have:=ah.new w 162 #[.map (some M),.map (some j)];exact this
  have S:W.heap.size=w.heap.size+1:=by rw[E];simp
  rw[<- E];clear S;have N:=qh (HM.o.below i HM.o.lt);have J:W.cell? ⟨b,o+(at_.length - 1),none⟩=some (aZ z):=by rw[i.cell (by exact R)];exact x
  have D:W.cell? ⟨w.heap.size,1,none⟩=some (.map (some j)):=B0.cell 1;clear x E;have i0:IntKind.i64.wrap ((at_.length:Int) - 1)=(at_.length:Int) - 1:=IntWalk.i64_in _ (by omega);have i1:((at_.length:Int) - 1).toNat=at_.length - 1:=by omega
  have i2:(0:Int)<=(at_.length:Int) - 1:=by omega
  have i3:(at_.length:Int) - 1<(at_.length:Int):=by omega
  rcases HN.o with ⟨F,C⟩ | ⟨d,ds,F,hd,aa,C⟩
  .skip
   have k:∀ w',DD W w'->(bb 160 (.map (some j)) (aZ z) true).run lM w' = .ok (.tuple #[.agg #[aZ ⟨#[]⟩,a0 none 0 0],a3 false]) w':=λ w' p=>by
    have h:=(N.o.below p N.o.lt).look underlying160 (qZ w') K;rw[F] at h;exact h
   have m:=qh k;have P:=qh C;have Q:=m.o W (Below.refl _ _);have a:=Below.refl W.heap.size W;have t:=qh (λ w' (u:DD W w')=>a6 (Below.cell_of u D) (a6 (Below.cell_of u J) (a6 (m.o w' u) u)));clear k C F;go_region_held3 (λ w'=>w'.cell? ⟨w.heap.size,1,none⟩=some (.map (some j))/\w'.cell? ⟨b,o+(at_.length - 1),none⟩=some (aZ z)/\(bb 160 (.map (some j)) (aZ z) true).run lM w' = .ok (.tuple #[.agg #[aZ ⟨#[]⟩,a0 none 0 0],a3 false]) w'/\DD W w') (first | exact t.o _ a.drew | exact t.o _ (a.alloc (a5 _) _) | exact t.o _ (a.alloc (a5 _) _).drew | exact t.o _ (a.drew.alloc (a5 _) _) | exact t.o _ a) (fail)
   all_goals
    obtain⟨W2,g⟩:=aG ((W.alloc (a2 #[aZ ⟨#[]⟩,a0 none 0 0] 184 (0,0))).drew);have q:DD W W2:=g▸((Below.refl _ W).alloc (a5 _) _).drew;have f:=i.trans (q.mono i.size);have B2:ah W2 W.heap.size 184 #[aZ ⟨#[]⟩,a0 none 0 0]:=g▸(ah.new W _ _).drew;rw[<- g];clear g;clear q B2;go_upto_region 4 with (fail);go_quiet (fail);go_wp2_with (fail);go_ret;exact⟨aH (by rw[P.o]),f.drewN _⟩
  .obtain⟨⟨A',c',rfl,MR,ac⟩,ad,I,U⟩:=hd;have Cf:=qh (a6 MR I);clear MR I U;have k:∀ w',DD W w'->(bb 160 (.map (some j)) (aZ z) true).run lM w' = .ok (.tuple #[.agg #[aZ d.nm,a0 A' d.loops.length c'],a3 true]) w':=λ w' p=>by
    have h:=(N.o.below p N.o.lt).look underlying160 (qZ w') K;rw[F] at h;exact h
   have m:=qh k;have P:=qh C;have Q:=m.o W (Below.refl _ _);have a:=Below.refl W.heap.size W;have t:=qh (λ w' (u:DD W w')=>a6 (Below.cell_of u D) (a6 (Below.cell_of u J) (a6 (m.o w' u) u)));clear k C F;go_region_held3 (λ w'=>w'.cell? ⟨w.heap.size,1,none⟩=some (.map (some j))/\w'.cell? ⟨b,o+(at_.length - 1),none⟩=some (aZ z)/\(bb 160 (.map (some j)) (aZ z) true).run lM w' = .ok (.tuple #[.agg #[aZ d.nm,a0 A' d.loops.length c'],a3 true]) w'/\DD W w') (first | exact t.o _ a.drew | exact t.o _ (a.alloc (a5 _) _) | exact t.o _ (a.alloc (a5 _) _).drew | exact t.o _ (a.drew.alloc (a5 _) _) | exact t.o _ a) (fail)
   all_goals
    obtain⟨W2,g⟩:=aG ((W.alloc (a2 #[aZ d.nm,a0 A' d.loops.length c'] 184 (0,0))).drew);have q:DD W W2:=g▸((Below.refl _ W).alloc (a5 _) _).drew;have f:=i.trans (q.mono i.size);have B2:ah W2 W.heap.size 184 #[aZ d.nm,a0 A' d.loops.length c']:=g▸(ah.new W _ _).drew;rw[<- g];clear g;have r:(at_.take (at_.length - 1)).length=at_.length - 1:=by rw[List.length_take];omega
    have k1:∀ w':World,DD W2 w'->CS 16 #[a0 A' d.loops.length c',a0 (some ⟨b,o,none⟩) (at_.length - 1) c] w' (a3 (decide (d.loops=at_.dropLast))):=λ w' p=>by
     have H:=f.trans (p.mono f.size);have h:=sD A' (some ⟨b,o,none⟩) c' c B B d.loops (at_.take (at_.length - 1)) w' Cf.o.2 (by rw[r];have:=HA.o;omega) (Cf.o.1.below (H.mono O.o.2)) ((O.o.1.take _).below (H.mono O.o.2));rw[r,<- List.dropLast_eq_take] at h;exact h
    have K1:=qh (Later.call k1);have r1:=Later.cell (show W2.cell? ⟨W.heap.size,1,none⟩=some (a0 A' d.loops.length c') from B2.cell 1);clear k1 q B2 r;go_upto_region 4 with (fail);refine aU (by kernel_rfl) (by kernel_rfl) ?_
    repeat (go_big_quiet_step (with_reducible exact K1.o _))
    refine wpQuiet_nil ?_;intro _ T;obtain⟨⟨W9,gK⟩,rfl⟩:=T;go_wp2_with fail;go_ret;exact⟨aH (by rw[P.o]),f.trans (gK.mono f.size)⟩
end Go.Proofs.YtcnagconagpkcaaGreatDoor
