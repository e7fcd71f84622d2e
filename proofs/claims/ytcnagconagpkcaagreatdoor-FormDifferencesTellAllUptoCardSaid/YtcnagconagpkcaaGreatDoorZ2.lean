/- Lemmas. -/
import Derived.Test.YtcnagconagpkcaaGreatDoorZ1
import Derived.Test.YtcnagconagpkcaaGreatDoorZSh
import Derived.Maps.OwnSet
import Derived.StringKeys
import Derived.Deep.RegionHeld3
import Derived.Deep.DrawnRows
import Derived.IntWalk
set_option maxHeartbeats 8000000
set_option maxRecDepth 100000
open Go.Value renaming int->aR, string->a0, slice->a1, pointer->a2, bool->a4
open Go.IntKind renaming i64->aZ
open Go.Obj renaming cells->a3
open Go.Ending renaming returned->a5
open Nat renaming le_refl->a6, le_trans->a9, eq_zero_or_pos->bd, zero_le->bm, pos_iff_ne_zero->bo, lt_of_lt_of_le->bA
open And renaming intro->a7
open Go.ByteArray renaming toList_eq->a8
open Bool renaming eq_iff_iff->ba, eq_false_iff->bt, and_eq_true->bT
open List renaming eq_nil_of_length_eq_zero->bb, getElem?_eq_getElem->bh, mem_singleton->bi, mem_cons->bj, take_succ_eq_append_getElem->bk, getElem_mem->bl, getElem?_take->bp, getElem?_map->bq, take_length->br, contains_iff_mem->bs, drop_eq_getElem_cons->bv, take_of_length_le->bw, getElem?_drop->bx, mem_cons_self->bB, mem_cons_of_mem->bE, mem_append->bK, mem_append_left->bL, pairwise_append->bN, pairwise_singleton->bO, any_eq_false->bR, any_eq_true->bS
open Go.Instr renaming lookup->bc
open Go.World renaming size_alloc->be
namespace Go.Proofs.YtcnagconagpkcaaGreatDoor
open Go.RowKit
theorem bQ {P:Program} {f:Region.Mode} {c:Array Oper} {Q:Exit->Act->World->Prop} {i:Nat} {o:Oper} {d:Nat} {b:Array Bool} {a:Act} {w:World} (g:Region.ready f c b = [i]) (j:c[i]?=some o)
  (h:∀ e:Act->World->Prop,(∀ a w,wpAny P f c Q d (b.setIfInBounds i true) a w->e a w)->if Region.wanted o (yielded c a.tmps)=true then Oper.wp P o a w e Q else e (a.put o.dst undef) w):wpAny P f c Q (d+1) b a w:=
 wpAny_ready g (by simp) (AllReady.cons j h AllReady.nil)
theorem oz (c:UInt8) (w:World) :
  He 55 #[.int .u8 (c.toNat:Nat)] w (a4 (pX c)):=by
 go_enter Tryz.func55,Tryz.ntmps55;go_wp2
 all_goals (go_ret;exact⟨aj (by unfold pX;rw[ba];simp;try omega),rfl⟩)
theorem ji (c:UInt8) (w:World) :
  He 57 #[.int .u8 (c.toNat:Nat)] w (a4 (gY c)):=by
 go_enter Tryz.func57,Tryz.ntmps57;go_wp2
 all_goals (go_ret;exact⟨aj (by unfold gY pX;rw[ba];simp;try omega),rfl⟩)
theorem Ey (s:ByteArray) (w:World) (h:s.data.toList∈bH) :
  He 56 #[a0 s] w (a4 true):=by
 have b:s=⟨#[97,110,100]⟩\/s=⟨#[111,114]⟩\/s=⟨#[110,111,116]⟩\/s=⟨#[105,110]⟩\/s=⟨#[104,97,115]⟩\/s=⟨#[109,111,100]⟩\/s=⟨#[116,114,117,101]⟩\/s=⟨#[102,97,108,115,101]⟩:=by
  have a:∀ l:List UInt8,s.data.toList=l->s=⟨l.toArray⟩:=λ l e=>by subst e;rfl
  simp only[bH,bj,List.mem_nil_iff,or_false] at h;rcases h with h | h | h | h | h | h | h | h
  .exact .inl (a _ h)
  .exact .inr (.inl (a _ h))
  .exact .inr (.inr (.inl (a _ h)))
  .exact .inr (.inr (.inr (.inl (a _ h))))
  .exact .inr (.inr (.inr (.inr (.inl (a _ h)))))
  .exact .inr (.inr (.inr (.inr (.inr (.inl (a _ h))))))
  .exact .inr (.inr (.inr (.inr (.inr (.inr (.inl (a _ h)))))))
  .exact .inr (.inr (.inr (.inr (.inr (.inr (.inr ((a _ h))))))))
 rcases b with rfl | rfl | rfl | rfl | rfl | rfl | rfl | rfl
 all_goals
  go_enter Tryz.func56,Tryz.ntmps56;go_wp2;go_ret;exact⟨rfl,rfl⟩
theorem Hf (s:ByteArray) (w:World) (h:s.data.toList ∉ bH) :
  He 56 #[a0 s] w (a4 false):=by
 have g:(s.toList == [97,110,100])=false:=by rw[a8,beq_eq_false_iff_ne];exact λ e=>h (by rw[e];decide)
 have c:(s.toList == [111,114])=false:=by rw[a8,beq_eq_false_iff_ne];exact λ e=>h (by rw[e];decide)
 have j:(s.toList == [110,111,116])=false:=by rw[a8,beq_eq_false_iff_ne];exact λ e=>h (by rw[e];decide)
 have b:(s.toList == [105,110])=false:=by rw[a8,beq_eq_false_iff_ne];exact λ e=>h (by rw[e];decide)
 have a:(s.toList == [104,97,115])=false:=by rw[a8,beq_eq_false_iff_ne];exact λ e=>h (by rw[e];decide)
 have d:(s.toList == [109,111,100])=false:=by rw[a8,beq_eq_false_iff_ne];exact λ e=>h (by rw[e];decide)
 have f:(s.toList == [116,114,117,101])=false:=by rw[a8,beq_eq_false_iff_ne];exact λ e=>h (by rw[e];decide)
 have i:(s.toList == [102,97,108,115,101])=false:=by rw[a8,beq_eq_false_iff_ne];exact λ e=>h (by rw[e];decide)
 clear h;go_enter Tryz.func56,Tryz.ntmps56;go_wp2;go_ret;exact⟨rfl,rfl⟩
theorem mY (s:ByteArray) (w:World) :
  He 56 #[a0 s] w (a4 (bH.contains s.data.toList)):=by
 by_cases h:s.data.toList∈bH
 .rw[bs.2 h];exact Ey s w h
 .rw[show bH.contains s.data.toList=false from by rw[bt];exact λ e=>h (bs.1 e)];exact Hf s w h
theorem Jv {s:List UInt8} (h:s = []):bz s=false:=by subst h;rfl
theorem Md {s:List UInt8} (h:16<s.length):bz s=false:=by
 unfold bz;rw[show decide (s.length<=16)=false by simp;omega];simp
theorem PN {c:UInt8} {r:List UInt8} (h:pX c=false):bz (c :: r)=false:=by simp[bz,h]
theorem PO {s:List UInt8} (h:bH.contains s=true):bz s=false:=by simp only[bz,h];simp
theorem Me {c:UInt8} {r:List UInt8} (b:(c :: r).length<=16) (d:pX c=true) (a:bH.contains (c :: r)=false):bz (c :: r)=(c :: r).all gY:=by
 simp only[bz,d,a];simp;intro _ _;simpa using b
theorem head_cons {s:ByteArray} (h:0<s.size):s.data.toList=s[0] :: s.data.toList.tail:=by
 have a:0<s.data.toList.length:=h;rw[show s.data.toList.tail=s.data.toList.drop 1 by simp];have:=bv a;rw[List.drop_zero] at this;rw[this];rfl
theorem Xb {s:ByteArray} {k:Nat} {p:UInt8->Bool} (h:k<s.size) (a:(s.data.toList.take k).all p=true):(s.data.toList.take (k+1)).all p=p s[k]:=by
 have b:k<s.data.toList.length:=h;rw[bk b,List.all_append,a];simp;rfl
theorem aaW {s:ByteArray} {k:Nat} {p:UInt8->Bool} (h:k<s.size) (a:p s[k]=false):s.data.toList.all p=false:=by
 have b:k<s.data.toList.length:=h;rw[bt];intro e;rw[List.all_eq_true] at e;have:=e s.data.toList[k] (bl b);rw[show s.data.toList[k]=s[k] from rfl,a] at this;cases this
theorem lS (s:ByteArray) (w:World) (A:s.size<=maxLen) :
  He 23 #[a0 s] w (a4 (bz s.data.toList)):=by
 unfold maxLen at A;have d:s.data.toList.length=s.size:=rfl;by_cases h0:s=⟨#[]⟩
 .have f:=qh (Jv (s:=s.data.toList) (by rw[h0]));subst h0;go_enter Tryz.func23,Tryz.ntmps23;go_wp2_with fail;go_ret;exact⟨aj (by rw[f.o]),rfl⟩
 have z:0<s.size:=by
  rcases bd s.size with h | h
  .exact absurd (ByteArray.ext (Array.toList_inj.1 (bb (d.trans h)))) h0
  .exact h
 have E:s.toList.isEmpty=false:=by rw[a8];cases hh:s.data.toList with
  | nil=>rw[hh] at d;simp at d;omega
  | cons a r=>rfl
 have p:=qh (head_cons z);by_cases h1:16<s.size
 .have f:=qh (Md (s:=s.data.toList) h1);have b1:decide ((16:Int)<(s.size:Nat))=true:=by simp;omega
  clear h0 d h1;go_enter Tryz.func23,Tryz.ntmps23;go_wp2_with fail;go_ret;exact⟨aj (by rw[f.o]),rfl⟩
 have b1:decide ((16:Int)<(s.size:Nat))=false:=by simp;omega
 by_cases h2:pX s[0]=true;rotate_left
 .have f:=qh (show bz s.data.toList=false by rw[p.o];exact PN (by simpa using h2));have j:=qh (show ∀ w',Calls Tryz.prog 55 #[.int .u8 (s[0].toNat:Nat)] w' λ e c=>e = a5 (a4 false)/\w'=c from λ w'=>by
   have h:=oz s[0] w'
   rwa [show pX s[0]=false by simpa using h2] at h)
  clear h0 d h1 h2;go_enter Tryz.func23,Tryz.ntmps23;go_wp2_with fail;refine (j.o _).mono ?_;rintro e l ⟨rfl,rfl⟩;go_wp2_with fail;go_ret;exact⟨aj (by rw[f.o]),rfl⟩
 have j:=qh (show ∀ w',Calls Tryz.prog 55 #[.int .u8 (s[0].toNat:Nat)] w' λ e c=>e = a5 (a4 true)/\w'=c from λ w'=>by
  have h:=oz s[0] w'
  rwa [h2] at h)
 by_cases h3:bH.contains s.data.toList=true
 .have f:=qh (PO h3);have n:=qh (show ∀ w',Calls Tryz.prog 56 #[a0 s] w' λ e c=>e = a5 (a4 true)/\w'=c from λ w'=>by
   have h:=mY s w'
   rwa [h3] at h)
  clear h0 d h1 h2 h3;go_enter Tryz.func23,Tryz.ntmps23;go_wp2_with fail;refine (j.o _).mono ?_;rintro e l ⟨rfl,rfl⟩;go_wp2_with fail;refine (n.o _).mono ?_;rintro e l ⟨rfl,rfl⟩;go_wp2_with fail;go_ret;exact⟨aj (by rw[f.o]),rfl⟩
 have g:bH.contains s.data.toList=false:=by simpa using h3
 have n:=qh (show ∀ w',Calls Tryz.prog 56 #[a0 s] w' λ e c=>e = a5 (a4 false)/\w'=c from λ w'=>by
  have h:=mY s w'
  rwa [g] at h)
 have f:=qh (show bz s.data.toList=s.data.toList.all gY by
  rw[p.o] at g ⊢;exact Me (by rw[<- p.o];omega) h2 g)
 have C:s.size<=16:=by omega
 clear h0 d h1 h2 h3 g;go_enter Tryz.func23,Tryz.ntmps23;go_wp2_with fail;refine (j.o _).mono ?_;rintro e l ⟨rfl,rfl⟩;go_wp2_with fail;refine (n.o _).mono ?_;rintro e l ⟨rfl,rfl⟩;clear j n;go_wp2_with fail
 go_loop [3] (λ i=>∃ k:Nat,k<=s.size/\i = aR aZ k/\Hid ((s.data.toList.take k).all gY=true)) (λ i=>s.size - (intOf i).toNat)
 case atStart=>exact⟨0,bm _,rfl,qh rfl⟩
 case round =>
  obtain⟨k,D,rfl,t⟩:=hrel;by_cases hlt:k<s.size
  .obtain⟨b,m⟩:=af (gY s[k]);have u:=qh m;have v:=qh ((Xb hlt t.o).trans m);have q:=qh hlt;have HW:=qh (show Calls Tryz.prog 57 #[.int .u8 (s[k].toNat:Nat)] w λ e c=>e = a5 (a4 b)/\w=c from by
    exact (ji s[k] w).mono λ e c ⟨y,B⟩=>⟨y.trans (congrArg (λ x=>Ending.returned (a4 x)) m),B⟩)
   clear m;go_wp2_with fail;refine HW.o.mono ?_;rintro e l ⟨rfl,rfl⟩;cases b
   .have o:=qh (aaW q.o u.o);go_wp2_with fail;go_ret;exact⟨aj (by rw[f.o,o.o]),rfl⟩
   .go_wp2_with fail
    go_round
    case rel=>exact⟨k+1,q.o,by go_num,v⟩
    case measure =>
     have:=q.o;simp[intOf];omega
  .have o:=qh (show s.data.toList.all gY=true by
    have h:=t.o
    rwa [bw (by show s.size<=k;omega)] at h)
   go_wp2_with fail;go_ret;exact⟨aj (by rw[f.o,o.o]),rfl⟩
theorem aF {w w':World} {n:String} {k:IntKind} {l:List Int} (h:Lib.TabIs Tryz.prog w n k l) (c:EG w w'):Lib.TabIs Tryz.prog w' n k l:=by
 unfold Lib.TabIs World.var? at *;cases hg:Tryz.prog.globalNamed n with
 | none=>rw[hg] at h;cases h
 | some g =>
  rw[hg] at h;simp only[Option.bind_some] at h ⊢;have b:g<w.heap.size:=by
   rcases Nat.lt_or_ge g w.heap.size with a | a
   .exact a
   .rw[Array.getElem?_eq_none a] at h;cases h
  rw[c.block g b];exact h
theorem tK (x:Val) (A:Option Addr) (c:Nat) (w:World) :
  CS 292 #[.agg (BK x A c)] w (a4 (tC x)):=by
 go_enter Tryz.func292,Tryz.ntmps292;go_wp2
 all_goals (go_ret;exact⟨aj (by simp_all[tC];try (rw[ba];simp[List.length_eq_zero_iff])),(Below.refl _ _).alloc (a6 _) _⟩)
theorem PQ {op:Int} (h:op≠2/\op≠3/\op≠24/\op≠25/\op≠26/\op≠1/\op≠12/\op≠13/\op≠14/\op≠20/\op≠21/\op≠22/\op≠23/\op≠28/\op≠29/\op≠30/\op≠34/\op≠35/\op≠36):jL op=if bu op 1 39=true then (0,0) else (2,2):=by
 obtain⟨t,r,o,i,e,s,j,q,d,p,l,f,k,m,n,g,b,c,a⟩:=h;unfold jL;rw[if_neg (by omega),if_neg (by omega),if_neg (by omega)];by_cases h0:1<=op/\op<=39
 .rw[if_pos h0,pW h0.1 h0.2];rfl
 .rw[if_neg h0,pR (by omega)];rfl
def arV (op:Int):Value:=.tuple #[aR aZ ((jL op).1:Nat),aR aZ ((jL op).2:Nat)]
theorem Iy (op:Int) (w:World) :
  He 293 #[aR aZ op] w (arV op):=by
 by_cases h:op=2\/op=3\/op=24\/op=25\/op=26\/op=1\/op=12\/op=13\/op=14\/op=20\/op=21\/op=22\/op=23\/op=28\/op=29\/op=30\/op=34\/op=35\/op=36
 .rcases h with rfl | rfl | rfl | rfl | rfl | rfl | rfl | rfl | rfl | rfl | rfl | rfl | rfl | rfl | rfl | rfl | rfl | rfl | rfl
  all_goals
   go_enter Tryz.func293,Tryz.ntmps293;go_wp2;go_ret2;exact⟨rfl,rfl⟩
 .have d:op≠2/\op≠3/\op≠24/\op≠25/\op≠26/\op≠1/\op≠12/\op≠13/\op≠14/\op≠20/\op≠21/\op≠22/\op≠23/\op≠28/\op≠29/\op≠30/\op≠34/\op≠35/\op≠36:=by omega
  have c:=qh (PQ d);have b2:(op == 2)=false:=by rw[beq_eq_false_iff_ne];omega
  have b3:(op == 3)=false:=by rw[beq_eq_false_iff_ne];omega
  have l:(op == 24)=false:=by rw[beq_eq_false_iff_ne];omega
  have x:(op == 25)=false:=by rw[beq_eq_false_iff_ne];omega
  have r:(op == 26)=false:=by rw[beq_eq_false_iff_ne];omega
  have b1:(op == 1)=false:=by rw[beq_eq_false_iff_ne];omega
  have m:(op == 12)=false:=by rw[beq_eq_false_iff_ne];omega
  have t:(op == 13)=false:=by rw[beq_eq_false_iff_ne];omega
  have j:(op == 14)=false:=by rw[beq_eq_false_iff_ne];omega
  have v:(op == 20)=false:=by rw[beq_eq_false_iff_ne];omega
  have g:(op == 21)=false:=by rw[beq_eq_false_iff_ne];omega
  have n:(op == 22)=false:=by rw[beq_eq_false_iff_ne];omega
  have f:(op == 23)=false:=by rw[beq_eq_false_iff_ne];omega
  have k:(op == 28)=false:=by rw[beq_eq_false_iff_ne];omega
  have p:(op == 29)=false:=by rw[beq_eq_false_iff_ne];omega
  have s:(op == 30)=false:=by rw[beq_eq_false_iff_ne];omega
  have u:(op == 34)=false:=by rw[beq_eq_false_iff_ne];omega
  have i:(op == 35)=false:=by rw[beq_eq_false_iff_ne];omega
  have q:(op == 36)=false:=by rw[beq_eq_false_iff_ne];omega
  obtain⟨o,b⟩:=af (bu op 1 39);have a:=qh b;clear h d b;go_enter Tryz.func293,Tryz.ntmps293;go_wp2_with fail;refine (bD op 1 39 w).mono ?_;rw[a.o];rintro e y ⟨rfl,rfl⟩;cases o
  .go_wp2;go_ret2;exact⟨dC (by unfold arV;rw[c.o,a.o];rfl),rfl⟩
  .go_wp2;go_ret2;exact⟨dC (by unfold arV;rw[c.o,a.o];rfl),rfl⟩
theorem aaX (op:Int) (nm:ByteArray) (v:Val) (n:Nat) (A:Option Addr) (c:Nat) (A':Option Addr) (c':Nat) (w:World) (a:n<=maxLen) :
  CS 272 #[.agg (BF 1 op nm v A c A' n c')] w (a4 (dY 1 op nm v n)):=by
 unfold maxLen at a;go_enter Tryz.func272,Tryz.ntmps272;go_wp2
 all_goals (go_ret;exact⟨aj (by simp_all[dY,bo]),(Below.refl _ _).alloc (a6 _) _⟩)
theorem aaY (op:Int) (nm:ByteArray) (v:Val) (n:Nat) (A:Option Addr) (c:Nat) (A':Option Addr) (c':Nat) (w:World) (i:n<=maxLen) :
  CS 272 #[.agg (BF 2 op nm v A c A' n c')] w (a4 (dY 2 op nm v n)):=by
 unfold maxLen at i;obtain⟨z,f⟩:=af (tC v);have h:=qh f;clear f;go_enter Tryz.func272,Tryz.ntmps272;go_wp2_with fail;obtain⟨W,d⟩:=aH ((w.alloc (.cells (BF 2 op nm v A c A' n c') 67 (0,0))));have a:EG w W:=by rw[d];exact ((Below.refl _ w).alloc (a6 _) _)
 have B0:ag W (w.heap.size) 67 (BF 2 op nm v A c A' n c'):=by
  rw[d];have:=ag.new w 67 (BF 2 op nm v A c A' n c');exact this
 have g:W.heap.size=w.heap.size+1:=by rw[d];simp
 rw[<- d];clear d g;refine (tK v A c W).mono ?_;rw[h.o];rintro e k ⟨rfl,b⟩;have B0:=B0.below b B0.lt;have a:=a.trans (b.mono a.size);clear b;obtain⟨r,s,o,p,q,m,j,l⟩:=ag.c8 B0;cases z
 .go_wp2;go_ret;exact⟨aj (by unfold dY;rw[h.o];simp),a⟩
 .go_wp2
  all_goals (go_ret;exact⟨aj (by have f:=h.o;simp_all[dY,bo]),a⟩)
theorem aaZ (op:Int) (nm:ByteArray) (v:Val) (n:Nat) (A:Option Addr) (c:Nat) (A':Option Addr) (c':Nat) (w:World) (i:n<=maxLen) :
  CS 272 #[.agg (BF 3 op nm v A c A' n c')] w (a4 (dY 3 op nm v n)):=by
 unfold maxLen at i;obtain⟨z,f⟩:=af (tC v);have h:=qh f;clear f;go_enter Tryz.func272,Tryz.ntmps272;go_wp2_with fail;obtain⟨W,d⟩:=aH ((w.alloc (.cells (BF 3 op nm v A c A' n c') 67 (0,0))));have a:EG w W:=by rw[d];exact ((Below.refl _ w).alloc (a6 _) _)
 have B0:ag W (w.heap.size) 67 (BF 3 op nm v A c A' n c'):=by
  rw[d];have:=ag.new w 67 (BF 3 op nm v A c A' n c');exact this
 have g:W.heap.size=w.heap.size+1:=by rw[d];simp
 rw[<- d];clear d g;refine (tK v A c W).mono ?_;rw[h.o];rintro e k ⟨rfl,b⟩;have B0:=B0.below b B0.lt;have a:=a.trans (b.mono a.size);clear b;obtain⟨r,s,o,p,q,m,j,l⟩:=ag.c8 B0;cases z
 .go_wp2;go_ret;exact⟨aj (by unfold dY;rw[h.o];simp),a⟩
 .go_wp2
  all_goals (go_ret;exact⟨aj (by have f:=h.o;simp_all[dY,bo]),a⟩)
theorem aa0 (op:Int) (nm:ByteArray) (v:Val) (n:Nat) (A:Option Addr) (c:Nat) (A':Option Addr) (c':Nat) (w:World) (t:n<=maxLen) :
  CS 272 #[.agg (BF 4 op nm v A c A' n c')] w (a4 (dY 4 op nm v n)):=by
 unfold maxLen at t;obtain⟨z,s⟩:=af (tC v);have l:=qh s;clear s;go_enter Tryz.func272,Tryz.ntmps272;go_wp2_with fail;obtain⟨W,i⟩:=aH ((w.alloc (.cells (BF 4 op nm v A c A' n c') 67 (0,0))));have b:EG w W:=by rw[i];exact ((Below.refl _ w).alloc (a6 _) _)
 have B0:ag W (w.heap.size) 67 (BF 4 op nm v A c A' n c'):=by
  rw[i];have:=ag.new w 67 (BF 4 op nm v A c A' n c');exact this
 have k:W.heap.size=w.heap.size+1:=by rw[i];simp
 rw[<- i];clear i k;refine (tK v A c W).mono ?_;rw[l.o];rintro e q ⟨rfl,f⟩;have B0:=B0.below f B0.lt;have b:=b.trans (f.mono b.size);clear f;obtain⟨I,J,F,G,H,E,C,D⟩:=ag.c8 B0;cases z
 .go_wp2;go_ret;exact⟨aj (by unfold dY;rw[l.o];simp),b⟩
 .by_cases hnm:nm.toList = [];rotate_left
  .have B:=qh hnm;have x:nm.toList.isEmpty=false:=by cases h:nm.toList with
    | nil=>exact absurd h hnm
    | cons a r=>rfl
   clear hnm;go_wp2;go_ret;exact⟨aj (by unfold dY;rw[if_pos (.inr (.inr ⟨by omega,B.o⟩))]),b⟩
  have x:nm.toList.isEmpty=true:=by rw[hnm];rfl
  have u:=qh (show dY 4 op nm v n=bu n ((jL op).1:Nat) ((jL op).2:Nat) by
   unfold dY;rw[if_neg (by rw[l.o];simp[hnm]),if_neg (by omega)];simp[bu])
  obtain⟨m,d⟩:=af ((jL op).1);obtain⟨o,g⟩:=af ((jL op).2);have p:=qh (a7 d g);have j:=qh (show arV op = .tuple #[aR aZ (m:Nat),aR aZ (o:Nat)] by unfold arV;rw[d,g]);clear hnm d g;go_wp2_with fail;refine (Iy op q).mono ?_;rw[j.o];rintro e y ⟨rfl,rfl⟩;go_wp2_with fail;refine (bD n m o q).mono ?_;rintro e y ⟨rfl,rfl⟩;go_wp2;go_ret;exact⟨aj (by rw[u.o,p.o.1,p.o.2]),b⟩
theorem aa1 (op:Int) (nm:ByteArray) (v:Val) (n:Nat) (A:Option Addr) (c:Nat) (A':Option Addr) (c':Nat) (w:World) (i:n<=maxLen) :
  CS 272 #[.agg (BF 5 op nm v A c A' n c')] w (a4 (dY 5 op nm v n)):=by
 unfold maxLen at i;obtain⟨z,f⟩:=af (tC v);have h:=qh f;clear f;go_enter Tryz.func272,Tryz.ntmps272;go_wp2_with fail;obtain⟨W,d⟩:=aH ((w.alloc (.cells (BF 5 op nm v A c A' n c') 67 (0,0))));have a:EG w W:=by rw[d];exact ((Below.refl _ w).alloc (a6 _) _)
 have B0:ag W (w.heap.size) 67 (BF 5 op nm v A c A' n c'):=by
  rw[d];have:=ag.new w 67 (BF 5 op nm v A c A' n c');exact this
 have g:W.heap.size=w.heap.size+1:=by rw[d];simp
 rw[<- d];clear d g;refine (tK v A c W).mono ?_;rw[h.o];rintro e k ⟨rfl,b⟩;have B0:=B0.below b B0.lt;have a:=a.trans (b.mono a.size);clear b;obtain⟨r,s,o,p,q,m,j,l⟩:=ag.c8 B0;cases z
 .go_wp2;go_ret;exact⟨aj (by unfold dY;rw[h.o];simp),a⟩
 .go_wp2
  all_goals (go_ret;exact⟨aj (by have f:=h.o;unfold dY;rw[f];simp;try (rw[ba];simp;omega)),a⟩)
theorem Uc (k op:Int) (nm:ByteArray) (v:Val) (n:Nat) (A:Option Addr) (c:Nat) (A':Option Addr) (c':Nat) (w:World) (a:n<=maxLen) (d:1<=k) (b:k<=5) :
  CS 272 #[.agg (BF k op nm v A c A' n c')] w (a4 (dY k op nm v n)):=by
 obtain rfl | rfl | rfl | rfl | rfl:k=1\/k=2\/k=3\/k=4\/k=5:=by omega
 .exact aaX op nm v n A c A' c' w a
 .exact aaY op nm v n A c A' c' w a
 .exact aaZ op nm v n A c A' c' w a
 .exact aa0 op nm v n A c A' c' w a
 .exact aa1 op nm v n A c A' c' w a
theorem Ud {a b:Int} (h:(a != b)=false):a=b:=by simpa using h
theorem aa2 {op:Int} {nm:ByteArray} {v:Val} {n:Nat} (a:12<=op/\op<=14) (h:dY 4 op nm v n=false):n=1:=by
 have e:jL op=(1,1):=by rcases (by omega:op=12\/op=13\/op=14) with rfl | rfl | rfl <;> rfl
 unfold dY at h;rw[e] at h;split at h
 .cases h
 .simp at h;omega
theorem Hg (k op:Int) (nm:ByteArray) (v:Val) (n:Nat) (t:Int) (A:Option Addr) (c:Nat) (A':Option Addr) (c' B:Nat) (w:World) (i:nm.size<=maxLen) (o:v.s.size<=maxLen) (j:v.l.length<=maxLen) (hn:n<=maxLen)
  (d:Reads w B 1 A v.l.length (bF aZ v.l)) (hB:B<=w.heap.size) (hA:0<n->∃ ad,A'=some ad/\ad.block<B/\w.cell? ad=some (aR aZ t)) :
  CS 257 #[.agg (BF k op nm v A c A' n c')] w (aR aZ (Et k op nm v n t)):=by
 obtain⟨W,u⟩:=aH (w.alloc (.cells (BF k op nm v A c A' n c') 67 (0,0)));have l:EG w W:=u▸(Below.refl _ w).alloc (a6 _) _;have N:ag W w.heap.size 67 (BF k op nm v A c A' n c'):=u▸ag.new w _ _;have G:=qh (show ∀ a,EG W a->a.cell? ⟨w.heap.size,0,none⟩=some (aR aZ k)/\a.cell? ⟨w.heap.size,1,none⟩=some (aR aZ op)/\a.cell? ⟨w.heap.size,2,none⟩=some (a0 nm)/\a.cell? ⟨w.heap.size,3,none⟩=some (aR aZ v.k)/\a.cell? ⟨w.heap.size,4,none⟩=some (aR aZ v.n)/\a.cell? ⟨w.heap.size,5,none⟩=some (a0 v.s)/\a.cell? ⟨w.heap.size,6,none⟩=some (a1 A v.l.length c)/\a.cell? ⟨w.heap.size,7,none⟩=some (a1 A' n c') from λ a f=>by
  have B:=N.below f N.lt;exact⟨B.cell 0,B.cell 1,B.cell 2,B.cell 3,B.cell 4,B.cell 5,B.cell 6,B.cell 7⟩)
 have b:=qh (Below.refl W.heap.size W);have HW:=qh l;have y:=qh (a7 d (a7 hB hA));have s:=qh (a7 i (a7 o (a7 j hn)));clear N l d hB hA i o j hn;rcases ((Classical.em (bu k 1 5=true)).elim .inl (λ h=>.inr (by simp[bu] at h;omega)):bu k 1 5=true\/k=1\/k=2\/k=3\/k=4\/k=5) with g | rfl | rfl | rfl | rfl | rfl;rotate_left;have g:bu 1 1 5=false:=by decide
 cases d:dY 1 op nm v n;cases z0:(v.k == 0);cases z1:(v.k == 1);rotate_left 4;have g:bu 2 1 5=false:=by decide
 cases d:dY 2 op nm v n;cases f:bz nm.data.toList;rotate_left 3;have g:bu 3 1 5=false:=by decide
 cases d:dY 3 op nm v n;cases f:bz nm.data.toList;rotate_left 3;have g:bu 4 1 5=false:=by decide
 cases h4:bu op 1 39;cases d:dY 4 op nm v n;by_cases ha:12<=op/\op<=14;obtain rfl:=aa2 ha d;obtain⟨ad,rfl,an,x⟩:=y.o.2.2 (by decide);have S:=qh (show ∀ a,EG W a->a.cell? ad=some (aR aZ t) from λ a f=>Below.cell_of (HW.o.trans (f.mono HW.o.size)) x);have x:=S.o _ b.o;have qq:bu op 12 14=false:=pW ha.1 ha.2;cases hk2:(t != 2);rotate_left 2;have qq:bu op 12 14=true:=by simp[bu];omega
 have ae:(op == 12)=false:=beq_eq_false_iff_ne.2 (by omega);have am:(op == 13)=false:=beq_eq_false_iff_ne.2 (by omega);have ap:(op == 14)=false:=beq_eq_false_iff_ne.2 (by omega);rotate_left 3;have g:bu 5 1 5=false:=by decide
 cases h5:bu op 1 6;cases d:dY 5 op nm v n;cases f:bz nm.data.toList
 all_goals
  try have R:=qh g
  try have T:=qh d
  try have X:=qh h4
  try have Z:=qh h5
  try have P:=qh f
  try have V:=qh z0
  try have Q:=qh z1
  try have Y:=qh hk2
  try have D:=qh zz
  try have O:=qh o0
  try have U:=qh n0
  try have F:=qh ne
  try have H:=qh n1
  try have z:=qh ra
  try have M:=qh qq
  obtain⟨r0,r1,r2,r3,r4,r5,r6,r7⟩:=G.o _ b.o;go_enter Tryz.func257,Tryz.ntmps257;go_upto_region 1 with (fail);rw[<- u];clear u;go_wp2_with (first | (go_at_call 121;(refine (bD _ _ _ _).mono ?_);rintro _ C ⟨rfl,rfl⟩) | (go_at_call 272;(refine (Uc _ op nm v _ A c _ c' _ s.o.2.2.2 (by decide) (by decide)).mono ?_);rintro _ C ⟨rfl,m⟩;have b:=qh (b.o.trans (m.mono b.o.size));obtain⟨r0,r1,r2,r3,r4,r5,r6,r7⟩:=G.o _ b.o;clear m;try have x:=S.o _ b.o) | (go_at_call 124;(refine (check_any v A c B _ s.o.2.2.1 s.o.2.1 (y.o.1.below ((HW.o.trans (b.o.mono HW.o.size)).mono y.o.2.1)) (a9 y.o.2.1 (HW.o.trans (b.o.mono HW.o.size)).size)).mono ?_);rintro _ C ⟨rfl,m⟩;have b:=qh (b.o.trans (m.mono b.o.size));obtain⟨r0,r1,r2,r3,r4,r5,r6,r7⟩:=G.o _ b.o;clear m;try have x:=S.o _ b.o) | (go_at_call 23;(refine (lS nm _ s.o.1).mono ?_);rintro _ C ⟨rfl,rfl⟩))
  all_goals
   go_ret
   try have L:=R.o
   try have I:=T.o
   try have K:=X.o
   try have J:=Z.o
   try have E:=P.o
   try have p:=V.o
   try have q:=Q.o
   try have r:=Y.o
   try have aq:=D.o
   try have ak:=O.o
   try have ac:=U.o
   try have ao:=F.o
   try have ab:=H.o
   try have aa:=z.o
   try have al:=M.o
   exact⟨ai (by unfold Et;(try simp only[L]);(try simp only[K]);(try simp only[J]);(try simp only[I]);(try simp only[E]);(try have y0:=beq_iff_eq.1 p);(try have y0:=beq_eq_false_iff_ne.1 p);(try have y1:=beq_iff_eq.1 q);(try have y1:=beq_eq_false_iff_ne.1 q);(try have y2:=bne_iff_ne.1 r);(try have y2:=Ud r);first | (simp[*];done) | (simp[*];omega)),HW.o.trans (b.o.mono HW.o.size)⟩
theorem PR {w:World} {B:Nat} {l:List Ex} {A':Option Addr} {cs:List Value} (f:Reads w B 8 A' l.length cs) (g:∀ i (h:i<l.length),aQ w B l[i] ((cs.drop (i*8)).take 8)) :
  0<l.length->∃ ad,A'=some ad/\ad.block<B/\w.cell? ad=some (aR aZ (L8 l)):=by
 intro h;obtain⟨ad,rfl,j,d⟩:=f.2 h;refine⟨ad,rfl,j,?_⟩;have c:=g 0 h;obtain⟨a,r,rfl⟩:∃ a r,l=a :: r:=by cases l with
  | nil=>simp at h
  | cons a r=>exact⟨a,r,rfl⟩
 have b:=d 0;rw[show ad.add 0=ad from rfl] at b;refine b _ ?_;generalize e:(cs.drop (0*8)).take 8=ci at c;obtain⟨-,-,-,-,-,-,-⟩:=c;have:((cs.drop (0*8)).take 8)[0]?=some (aR aZ (L8 (a :: r))):=by rw[e];rfl
 rw[bp,bx] at this;simpa using this
theorem Ez (e:Ex):∀ (B:Nat) (cs:List Value) (w:World),aQ w B e cs->B<=w.heap.size ->
  CS 235 #[.agg cs.toArray] w (aR aZ e.fault):=by
 induction e using Ex.ind with
 | h e ih =>
  rintro B cs w y D;have ae:=qh y;obtain⟨hn,hs,hl,R,y,Q,O⟩:=y;rename_i A c A' c' cs;have HR:=qh (a7 Q O);have HI:=qh ih;have HA:=qh R;have HP:=qh (λ w' F P =>Hg e.k e.op e.nm e.v e.ar.length (L8 e.ar) A c A' c' B w' hn hs hl R (y.below F) P (PR (Q.below F) (λ i h=>(O i h).keep F)));unfold maxLen at R;clear Q O ih y;obtain⟨f,X⟩:=af (jV e);have J:=qh X;have o:=qh (Eu e);clear X;show Calls Tryz.prog 235 #[.agg (BC e A c A' e.ar.length c')] w _;go_enter Tryz.func235,Tryz.ntmps235;go_wp2_with fail;obtain⟨W,j⟩:=aH ((w.alloc (.cells (BC e A c A' e.ar.length c') 67 (0,0))));have d:EG w W:=by rw[j];exact ((Below.refl _ w).alloc (a6 _) _)
  have B0:ag W (w.heap.size) 67 (BC e A c A' e.ar.length c'):=by
   rw[j];have:=ag.new w 67 (BC e A c A' e.ar.length c');exact this
  have L:W.heap.size=w.heap.size+1:=by rw[j];simp
  rw[<- j];clear j L;refine (HP.o W (d.mono D) (a9 D d.size)).mono ?_;rw[show Et e.k e.op e.nm e.v e.ar.length (L8 e.ar)=f from J.o];rintro T w1 ⟨rfl,r⟩;have B0:=B0.below r B0.lt;have d:=d.trans (r.mono d.size);clear r HP;obtain⟨dM,eQ,gW,gX,jM,jO,jP,jQ⟩:=ag.c8 B0;by_cases h0:f=0;rotate_left
  .have bf:(f != 0)=true:=by simpa using h0
   have E:=qh (o.o.trans (by rw[J.o,if_pos h0]));clear h0;go_wp2;go_ret;exact⟨ai (by rw[E.o]),d⟩
  subst h0;have E:=qh (show e.fault=nM e.ar from o.o.trans (by rw[J.o,if_neg (by omega)]));clear o;go_wp2;go_loopw [15] (λ i wr=>∃ k:Nat,k<=e.ar.length/\i = aR aZ k/\Hid (nM e.ar=nM (e.ar.drop k))/\EG w wr) (λ i _=>e.ar.length - (intOf i).toNat)
  case atStart=>exact⟨0,bm _,rfl,qh rfl,d⟩
  case round =>
   obtain⟨k,hk,rfl,G,m⟩:=hrel;have Z:=m.size;have Y:=m.mono D;by_cases hlt:k<e.ar.length
   .obtain⟨ad,ci,rfl,F,p,b⟩:=aQ.arg (HR.o.1.below Y) (λ i h=>(HR.o.2 i h).keep Y) hlt;obtain⟨a,n⟩:=af (e.ar[k]);have z:a∈e.ar:=by rw[<- n];exact bl hlt
    obtain⟨g,S⟩:=af (a.fault);have N:=qh S;have V:=qh (show nM (e.ar.drop k)=if g≠0 then g else nM (e.ar.drop (k+1)) by
     rw[bv hlt,n,nM,S])
    have aX:=qh hlt;have x:=qh (λ w' h1 h2=>HI.o a z B ci w' h1 h2);rw[n] at p;have tq:=qh p;obtain⟨al,aa,ac,ak,H,K,I⟩:=p;rename_i A1 U v t ab;have qJ:wr.cell? (ad.add (k*8))=some (aR aZ a.k):=b 0 _ rfl;have rU:wr.cell? ⟨(ad.add (k*8)).block,(ad.add (k*8)).off+1,none⟩=some (aR aZ a.op):=b 1 _ rfl;have x9:wr.cell? ⟨(ad.add (k*8)).block,(ad.add (k*8)).off+2,none⟩=some (a0 a.nm):=b 2 _ rfl;have AP:wr.cell? ⟨(ad.add (k*8)).block,(ad.add (k*8)).off+3,none⟩=some (aR aZ a.v.k):=b 3 _ rfl;have AQ:wr.cell? ⟨(ad.add (k*8)).block,(ad.add (k*8)).off+4,none⟩=some (aR aZ a.v.n):=b 4 _ rfl;have AU:wr.cell? ⟨(ad.add (k*8)).block,(ad.add (k*8)).off+5,none⟩=some (a0 a.v.s):=b 5 _ rfl;have AV:wr.cell? ⟨(ad.add (k*8)).block,(ad.add (k*8)).off+6,none⟩=some (a1 A1 a.v.l.length U):=b 6 _ rfl;have AZ:wr.cell? ⟨(ad.add (k*8)).block,(ad.add (k*8)).off+7,none⟩=some (a1 v a.ar.length t):=b 7 _ rfl;clear H K I b n z S;go_wp2_with fail;obtain⟨W,j⟩:=aH (wr.alloc (.cells (BC a A1 U v a.ar.length t) 67 (0,0)));have s:EG wr W:=j▸(Below.refl _ wr).alloc (a6 _) _;rw[<- j];have l:=m.trans (s.mono Z);have u:=s.mono (a9 D Z);clear j qJ rU x9 AP AQ AU AV AZ;refine (x.o W (tq.o.keep u) (a9 D l.size)).mono ?_;rw[N.o];rintro T w3 ⟨rfl,C⟩;have d:=l.trans (C.mono l.size);clear C s u l x;by_cases hg0:g=0;rotate_left
    .have bg:(g != 0)=true:=by simpa using hg0
     have q:=qh (show e.fault=g by rw[E.o,G.o,V.o,if_pos hg0]);clear hg0;go_wp2;go_ret;exact⟨ai (by rw[q.o]),d⟩
    subst hg0;have M:=qh (show nM e.ar=nM (e.ar.drop (k+1)) by rw[G.o,V.o,if_neg (by omega)]);go_wp2;go_roundw
    case rel=>exact⟨k+1,aX.o,by go_num,M,d⟩
    case measure =>
     have:=aX.o;simp[intOf];omega
   .have q:=qh (show e.fault=0 by rw[E.o,G.o,List.drop_eq_nil_of_le (by omega)];rfl);go_wp2;go_ret;exact⟨ai (by rw[q.o]),m⟩
structure Two (w w':World) (p d:Nat):Prop where
 os:w'.os=w.os
 tape:w'.tape=w.tape
 output:w'.output=w.output
 size:w.heap.size<=w'.heap.size
 block:∀ i,i<w.heap.size->i≠p->i≠d->w'.heap[i]?=w.heap[i]?
theorem Two.refl (w:World) (p d:Nat):Two w w p d:=⟨rfl,rfl,rfl,a6 _,λ _ _ _ _=>rfl⟩
theorem Two.trans {a b c:World} {p d:Nat} (h:Two a b p d) (k:Two b c p d):Two a c p d:=
 ⟨k.os.trans h.os,k.tape.trans h.tape,k.output.trans h.output,a9 h.size k.size,λ i f e g=>(k.block i (bA f h.size) e g).trans (h.block i f e g)⟩
theorem Two.alloc {a w:World} {p d:Nat} (h:Two a w p d) (o:Obj):Two a (w.alloc o) p d:=
 ⟨h.os,h.tape,h.output,by rw[be];exact Nat.le_succ_of_le h.size,λ i b c e=>(Below.heap_alloc w o i (bA b h.size)).trans (h.block i b c e)⟩
theorem Two.set {a w:World} {p d:Nat} (h:Two a w p d) {q:Addr} (b:q.block=p\/q.block=d) (u:Value):Two a (w.setCell q u) p d:=
 ⟨h.os,h.tape,h.output,by show _<=(w.setCell q u).heap.size;simp[World.setCell];exact h.size,λ i f c g=>(Below.heap_setCell w q u i (by rcases b with e | e <;> rw[e] <;> assumption)).trans (h.block i f c g)⟩
theorem Two.below {w w':World} {p d B:Nat} (h:Two w w' p d) (a:B<=p) (c:B<=d) (b:B<=w.heap.size):Below B w w':=
 ⟨h.os,h.tape,h.output,h.size,λ i e=>h.block i (by omega) (by omega) (by omega)⟩
theorem ag.two {w w':World} {p d g:Nat} {t:TypeId} {cs:Array Value} (h:ag w g t cs) (a:Two w w' p d) (b:g≠p) (c:g≠d):ag w' g t cs:=(a.block g h.lt b c).trans h
theorem MB (e:Ex):∀ lv (s:Nat × Nat),(e.meas lv s).1<=s.1+e.parts:=by
 induction e using Ex.ind with
 | h e ih =>
  intro lv s;rw[zu,parts_eq];split
  .show s.1+1<=_;omega
  .have:∀ (l:List Ex),(∀ a∈l,a∈e.ar)->∀ s:Nat × Nat,(fH l (lv+1) s).1<=s.1+aI l:=by
    intro l
    induction l with
    | nil=>intro _ s;rw[fH,aI];exact a6 _
    | cons a r ih2 =>
     intro h s;have f:=ih a (h a (bB ..)) (lv+1) s;have g:=ih2 (λ b d=>h b (bE _ d)) (a.meas (lv+1) s);rw[fH,aI];omega
   have:=this e.ar (λ a c=>c) (s.1+1,max s.2 lv);simp only at this;omega
theorem MC (e:Ex):∀ lv (s:Nat × Nat),lv<=21->s.2<=21->(e.meas lv s).2<=21:=by
 induction e using Ex.ind with
 | h e ih =>
  intro lv s i j;rw[zu];split
  .show max s.2 lv<=_;omega
  .rename_i g;have:∀ (l:List Ex),(∀ a∈l,a∈e.ar)->∀ s:Nat × Nat,s.2<=21->(fH l (lv+1) s).2<=21:=by
    intro l
    induction l with
    | nil=>intro _ s c;rw[fH];exact c
    | cons a r ih2 =>
     intro h s c;rw[fH];exact ih2 (λ b f=>h b (bE _ f)) _ (ih a (h a (bB ..)) (lv+1) s (by omega) c)
   exact this e.ar (λ a d=>d) _ (by show max s.2 lv<=_;omega)
theorem EC (a:Ex) (lv:Nat):∀ (l:List Ex) (s:Nat × Nat),fH (l ++ [a]) lv s=a.meas lv (fH l lv s)
 | [],s=>by rw[List.nil_append,fH,fH,fH]
 | b :: r,s=>by rw[List.cons_append,fH,fH,EC a lv r]
theorem MF (l:List Ex) (lv:Nat) (s:Nat × Nat):∀ k,(fH (l.take k) lv s).1<=s.1+aI (l.take k):=by
 intro k;have:∀ (l:List Ex) (s:Nat × Nat),(fH l lv s).1<=s.1+aI l:=by
  intro l
  induction l with
  | nil=>intro s;rw[fH,aI];exact a6 _
  | cons a r ih =>
   intro s;have b:=MB a lv s;have c:=ih (a.meas lv s);rw[fH,aI];omega
 exact this _ s
theorem MG (l:List Ex) (lv:Nat) (s:Nat × Nat) (c:lv<=21) (d:s.2<=21):∀ k,(fH (l.take k) lv s).2<=21:=by
 intro k;have:∀ (l:List Ex) (s:Nat × Nat),s.2<=21->(fH l lv s).2<=21:=by
  intro l
  induction l with
  | nil=>intro s b;rw[fH];exact b
  | cons a r ih =>
   intro s b;rw[fH];exact ih _ (MC a lv s c b)
 exact this _ s d
structure MeR (en:Ending) (w w':World) (pb db:Nat) (s:Nat × Nat):Prop where
 he:∃ v,en = a5 v
 two:Two w w' pb db
 hp:ag w' pb 3 #[aR aZ (s.1:Nat)]
 hd:ag w' db 3 #[aR aZ (s.2:Nat)]
theorem MH (e:Ex):∀ (B f db:Nat) (cs:List Value) (lv p d:Nat) (w:World),aQ w B e cs->B<=w.heap.size->B<=f->B<=db->f≠db->ag w f 3 #[aR aZ (p:Nat)]->ag w db 3 #[aR aZ (d:Nat)] ->
  lv<=21->d<=21->p+e.parts<=1000000000000 ->
  Calls Tryz.prog 234 #[.agg cs.toArray,aR aZ (lv:Nat),a2 (some ⟨f,0,none⟩),a2 (some ⟨db,0,none⟩)] w λ en w'=>MeR en w w' f db (e.meas lv (p,d)):=by
 induction e using Ex.ind with
 | h e ih =>
  rintro B f db cs lv p d w hx hB U aa ao j l aM hd hp;obtain⟨hn,hs,hl,ha,hx,hr,hi⟩:=hx;rename_i A c A' c' cs;have HR:=qh (a7 hr hi);have HI:=qh ih;have I:=parts_eq e;have al:p+1<=1000000000000:=by omega
  have Y:=qh (zu e lv (p,d));unfold maxLen at ha;clear hr hi ih hx;show Calls Tryz.prog 234 #[.agg (BC e A c A' e.ar.length c'),aR aZ (lv:Nat),a2 (some ⟨f,0,none⟩),a2 (some ⟨db,0,none⟩)] w _;go_enter Tryz.func234,Tryz.ntmps234;go_upto_region 1 with (fail);obtain⟨W,F⟩:=aH (w.alloc (.cells (BC e A c A' e.ar.length c') 67 (0,0)));have B0:ag W w.heap.size 67 (BC e A c A' e.ar.length c'):=F▸ag.new w _ _;have aD:=j.lt;have ax:=l.lt;have j:=(F▸j.alloc _:ag W f 3 #[aR aZ (p:Nat)]);have l:=(F▸l.alloc _:ag W db 3 #[aR aZ (d:Nat)]);have T0:Two w W f db:=F▸(Two.refl w f db).alloc _;rw[<- F];clear F;have T:=qh I;clear I;have t:W.cell? ⟨f,0,none⟩=some (aR aZ (p:Nat)):=j.cell 0;have pz:W.frozen? ⟨f,0,none⟩=false:=j.frozen 0;have dc:W.cell? ⟨db,0,none⟩=some (aR aZ (d:Nat)):=l.cell 0;have dz:W.frozen? ⟨db,0,none⟩=false:=l.frozen 0;obtain⟨dM,eQ,gW,gX,jM,jO,jP,jQ⟩:=ag.c8 B0;go_upto_region 2 with (fail);obtain⟨u,n⟩:=aH (W.setCell ⟨f,0,none⟩ (aR aZ ((p:Int)+1)));have B0:ag u w.heap.size 67 (BC e A c A' e.ar.length c'):=n▸B0.far (p:=⟨f,0,none⟩) (by show w.heap.size≠f;omega) _;have j:ag u f 3 #[aR aZ ((p:Int)+1)]:=n▸j.dS 0 _;have l:ag u db 3 #[aR aZ (d:Nat)]:=n▸l.far (p:=⟨f,0,none⟩) (by show db≠f;omega) _;have T1:Two w u f db:=n▸T0.set (q:=⟨f,0,none⟩) (.inl rfl) _;rw[<- n];clear n T0 t pz dc dz dM eQ gW gX jM jO jP jQ;have t:u.cell? ⟨f,0,none⟩=some (aR aZ ((p:Int)+1)):=j.cell 0;have dc:u.cell? ⟨db,0,none⟩=some (aR aZ (d:Nat)):=l.cell 0;have dz:u.frozen? ⟨db,0,none⟩=false:=l.frozen 0;go_upto_region 3 with (fail);obtain⟨x,m⟩:=aH (u.setCell ⟨db,0,none⟩ (aR aZ (max (d:Int) (lv:Int))));have B0:ag x w.heap.size 67 (BC e A c A' e.ar.length c'):=m▸B0.far (p:=⟨db,0,none⟩) (by show w.heap.size≠db;omega) _;have j:ag x f 3 #[aR aZ ((p:Int)+1)]:=m▸j.far (p:=⟨db,0,none⟩) (by show f≠db;omega) _;have l:ag x db 3 #[aR aZ (max (d:Int) (lv:Int))]:=m▸l.dS 0 _;have T2:Two w x f db:=m▸T1.set (q:=⟨db,0,none⟩) (.inr rfl) _;rw[<- m];clear m T1 t dc dz;have j:ag x f 3 #[aR aZ ((p+1:Nat):Int)]:=by rw[show ((p+1:Nat):Int)=(p:Int)+1 from by omega];exact j
  have l:ag x db 3 #[aR aZ ((max d lv:Nat):Int)]:=by rw[show ((max d lv:Nat):Int)=max (d:Int) (lv:Int) from by omega];exact l
  have t:x.cell? ⟨f,0,none⟩=some (aR aZ ((p+1:Nat):Int)):=j.cell 0;obtain⟨q,hq⟩:=af (p+1);obtain⟨g,hg⟩:=af (max d lv);have ap:g<=21:=by omega
  rw[hq] at j t al;rw[hg] at l;have WB:=qh (show e.meas lv (p,d)=if 300<q\/20<lv then (q,g) else fH e.ar (lv+1) (q,g) by rw[Y.o,<- hq,<- hg]);have aE:q+aI e.ar<=1000000000000:=by have:=T.o;omega
  clear Y T hq hg;by_cases y:300<q
  .have b3:decide ((300:Int)<(q:Nat))=true:=by simp;omega
   have C:=qh (WB.o.trans (if_pos (.inl y)));clear y;go_wp2;refine bodyPost_ret (v:=.tuple #[]) (by simp[results,Tryz.results234,go_sem]) rfl ⟨⟨_,rfl⟩,T2,?_,?_⟩
   .rw[C.o];exact j
   .rw[C.o];exact l
  have b3:decide ((300:Int)<(q:Nat))=false:=by simp;omega
  by_cases h20:20<lv
  .have an:decide ((20:Int)<(lv:Nat))=true:=by simp;omega
   have C:=qh (WB.o.trans (if_pos (.inr h20)));clear y h20;go_wp2;refine bodyPost_ret (v:=.tuple #[]) (by simp[results,Tryz.results234,go_sem]) rfl ⟨⟨_,rfl⟩,T2,?_,?_⟩
   .rw[C.o];exact j
   .rw[C.o];exact l
  have an:decide ((20:Int)<(lv:Nat))=false:=by simp;omega
  have C:=qh (WB.o.trans (if_neg (by omega)));have ar:lv<=20:=by omega
  clear y h20 WB t;have t:x.cell? ⟨f,0,none⟩=some (aR aZ (q:Nat)):=j.cell 0;obtain⟨dM,eQ,gW,gX,jM,jO,jP,jQ⟩:=ag.c8 B0;go_wp2;have R:=qh j;have H:=qh l;clear t dM eQ gW gX jM jO jP jQ j l B0;go_loopw [33] (λ i wr=>∃ (k:Nat),k<=e.ar.length/\i = aR aZ k/\Two w wr f db/\Hid (ag wr f 3 #[aR aZ ((fH (e.ar.take k) (lv+1) (q,g)).1:Nat)]/\ag wr db 3 #[aR aZ ((fH (e.ar.take k) (lv+1) (q,g)).2:Nat)])) (λ i _=>e.ar.length - (intOf i).toNat)
  case atStart=>exact⟨0,bm _,rfl,T2,qh ⟨R.o,H.o⟩⟩
  case round =>
   obtain⟨k,hk,rfl,s,z⟩:=hrel;clear R H T2;have eY:=s.size;have Bf:=s.below U aa hB;by_cases hlt:k<e.ar.length
   .obtain⟨ad,ci,rfl,hb,D,b⟩:=aQ.arg (HR.o.1.below Bf) (λ i h=>(HR.o.2 i h).keep Bf) hlt;obtain⟨a,r⟩:=af (e.ar[k]);have V:a∈e.ar:=by rw[<- r];exact bl hlt
    obtain⟨P,Q⟩:=af (fH (e.ar.take k) (lv+1) (q,g));obtain⟨P1,P2⟩:=P;have HS:=qh (show fH (e.ar.take (k+1)) (lv+1) (q,g)=a.meas (lv+1) (P1,P2) by
     rw[bk hlt,EC,r,Q])
    have M:P1+a.parts<=1000000000000:=by
     have E:=MF e.ar (lv+1) (q,g) k;rw[Q] at E;have h2:aI (e.ar.take k)+a.parts=aI (e.ar.take (k+1)):=by rw[bk hlt,CX,r]
     have y:=Mc e.ar (k+1);simp only at E;omega
    have aq:P2<=21:=by
     have E:=MG e.ar (lv+1) (q,g) (by omega) ap k;rw[Q] at E;exact E
    have aX:=qh hlt;rw[Q] at z;rw[r] at D;have tq:=qh D;have S:=qh (λ w' E h2 y h4=>HI.o a V B f db ci (lv+1) P1 P2 w' E h2 U aa ao y h4 (by omega) aq M);obtain⟨aL,av,ay,aA,ab,ak,ae⟩:=D;rename_i A1 c1 O J aw;have qJ:wr.cell? (ad.add (k*8))=some (aR aZ a.k):=b 0 _ rfl;have rU:wr.cell? ⟨(ad.add (k*8)).block,(ad.add (k*8)).off+1,none⟩=some (aR aZ a.op):=b 1 _ rfl;have x9:wr.cell? ⟨(ad.add (k*8)).block,(ad.add (k*8)).off+2,none⟩=some (a0 a.nm):=b 2 _ rfl;have AP:wr.cell? ⟨(ad.add (k*8)).block,(ad.add (k*8)).off+3,none⟩=some (aR aZ a.v.k):=b 3 _ rfl;have AQ:wr.cell? ⟨(ad.add (k*8)).block,(ad.add (k*8)).off+4,none⟩=some (aR aZ a.v.n):=b 4 _ rfl;have AU:wr.cell? ⟨(ad.add (k*8)).block,(ad.add (k*8)).off+5,none⟩=some (a0 a.v.s):=b 5 _ rfl;have AV:wr.cell? ⟨(ad.add (k*8)).block,(ad.add (k*8)).off+6,none⟩=some (a1 A1 a.v.l.length c1):=b 6 _ rfl;have AZ:wr.cell? ⟨(ad.add (k*8)).block,(ad.add (k*8)).off+7,none⟩=some (a1 O a.ar.length J):=b 7 _ rfl;clear ab ak ae b r V Q M;go_wp2_with fail;obtain⟨W3,o⟩:=aH (wr.alloc (.cells (BC a A1 c1 O a.ar.length J) 67 (0,0)));have T3:Two w W3 f db:=o▸s.alloc _;have X:ag W3 f 3 #[aR aZ (P1:Nat)]:=o▸z.o.1.alloc _;have L:ag W3 db 3 #[aR aZ (P2:Nat)]:=o▸z.o.2.alloc _;have Z:EG wr W3:=o▸(Below.refl _ wr).alloc (a6 _) _;rw[<- o];clear o qJ rU x9 AP AQ AU AV AZ;rw[show ((lv:Nat):Int)+1=((lv+1:Nat):Int) from by omega];refine (S.o W3 (tq.o.keep (Z.mono (by omega))) (by have:=T3.size;omega) X L).mono ?_;rintro en w4 ⟨⟨v0,rfl⟩,T4,N,G⟩;have ac:=T3.trans T4;have am:=qh (a7 N G);clear T3 T4 X L N G Z S z;go_wp2;go_roundw
    case rel=>exact⟨k+1,aX.o,by go_num,ac,by rw[HS.o];exact am⟩
    case measure =>
     have:=aX.o;simp[intOf];omega
   .have K:e.ar.take k=e.ar:=bw (by omega);rw[K,<- C.o] at z;clear K;go_wp2;refine bodyPost_end (v:=.tuple #[]) (by simp[results,Tryz.results234,go_sem]) rfl ⟨⟨_,rfl⟩,s,z.o.1,z.o.2⟩
theorem nY (e:Ex) (B:Nat) (cs:List Value) (w:World) (j:aQ w B e cs) (k:B<=w.heap.size) (U:e.parts<=100000000) :
  CS 211 #[.agg cs.toArray] w (aR aZ (dZ e)):=by
 have r:=qh j;obtain⟨O,V,R,X,j,C,z⟩:=j;rename_i A c A' c' cs;clear j C z;have v:=qh (Xa e);have t:=MB e 1 (0,0);have u:=MC e 1 (0,0) (by omega) (by simp);obtain⟨P,n⟩:=af (e.meas 1 (0,0));have q:=qh n;rw[n] at t u;obtain⟨p,d⟩:=P;simp only[Nat.zero_add] at t u;clear n;show Calls Tryz.prog 211 #[.agg (BC e A c A' e.ar.length c')] w _;go_enter Tryz.func211,Tryz.ntmps211;go_wp2_with fail;obtain⟨W,b⟩:=aH ((((w.alloc (.cells (BC e A c A' e.ar.length c') 67 (0,0))).alloc (a3 #[aR aZ 0] 3 (0,0))).alloc (a3 #[aR aZ 0] 3 (0,0))));have a:EG w W:=by rw[b];exact ((((Below.refl _ w).alloc (a6 _) _).alloc (by simp) _).alloc (by simp;omega) _)
 have B0:ag W (w.heap.size) 67 (BC e A c A' e.ar.length c'):=by
  rw[b];have:=ag.new w 67 (BC e A c A' e.ar.length c');have:=this.alloc (a3 #[aR aZ 0] 3 (0,0));have:=this.alloc (a3 #[aR aZ 0] 3 (0,0));exact this
 have B1:ag W (w.heap.size+1) 3 #[aR aZ 0]:=by
  rw[b];have:=ag.new (w.alloc (.cells (BC e A c A' e.ar.length c') 67 (0,0))) 3 #[aR aZ 0];have:=this.alloc (a3 #[aR aZ 0] 3 (0,0))
  rwa [be] at this
 have B2:ag W (w.heap.size+2) 3 #[aR aZ 0]:=by
  rw[b];have:=ag.new ((w.alloc (.cells (BC e A c A' e.ar.length c') 67 (0,0))).alloc (a3 #[aR aZ 0] 3 (0,0))) 3 #[aR aZ 0]
  rwa [be,be] at this
 have K:W.heap.size=w.heap.size+3:=by rw[b];simp
 rw[<- b];refine (MH e B (w.heap.size+1) (w.heap.size+2) _ 1 0 0 W (r.o.keep (a.mono k)) (by omega) (by omega) (by omega) (by omega) B1 B2 (by omega) (by omega) (by omega)).mono ?_;rw[q.o];rintro m i ⟨⟨Q,rfl⟩,T,y,M⟩;have a:=a.trans (T.below (by omega) (by omega) a.size);have B0:=B0.two T (by omega) (by omega);have s:W.heap.size<=i.heap.size:=T.size;clear b T B1 B2;have L:i.cell? ⟨w.heap.size+1,0,none⟩=some (aR aZ (p:Nat)):=y.cell 0;have G:i.cell? ⟨w.heap.size+2,0,none⟩=some (aR aZ (d:Nat)):=M.cell 0;obtain⟨N,I,E,H,J,F,x,D⟩:=ag.c8 B0;have l:=qh (show (300<p\/20<d) ↔ (300<e.parts\/20<e.depth) by have h:=v.o;rw[q.o] at h;exact h);by_cases h3:300<p
 .have b3:decide ((300:Int)<(p:Nat))=true:=by simp;omega
  have g:=qh (show dZ e=2 by unfold dZ;rw[if_pos (l.o.1 (.inl h3))]);clear h3;go_wp2;go_ret;exact⟨ai (by rw[g.o]),a⟩
 have b3:decide ((300:Int)<(p:Nat))=false:=by simp;omega
 by_cases h20:20<d
 .have o:decide ((20:Int)<(d:Nat))=true:=by simp;omega
  have g:=qh (show dZ e=2 by unfold dZ;rw[if_pos (l.o.1 (.inr h20))]);clear h3 h20;go_wp2;go_ret;exact⟨ai (by rw[g.o]),a⟩
 have o:decide ((20:Int)<(d:Nat))=false:=by simp;omega
 have g:=qh (show dZ e=e.fault by unfold dZ;rw[if_neg (λ h=>by have:=l.o.2 h;omega)]);clear h3 h20;go_wp2_with fail;refine (Ez e B _ i (r.o.keep (a.mono k)) (a9 k a.size)).mono ?_;rintro m S ⟨rfl,f⟩;have a:=a.trans (f.mono a.size);clear f L G N I E H J F x D;go_wp2;go_ret;exact⟨ai (by rw[g.o]),a⟩
def iZ (l:List ByteArray):List Value:=l.map Value.string
theorem zx (l:List ByteArray):(iZ l).length=l.length:=by simp[iZ]
theorem ED {l:List ByteArray} {k:Nat} {u:Value} (h:(iZ l)[k]?=some u):∃ h:k<l.length,u = a0 l[k]:=by
 unfold iZ at h;rw[bq] at h;rcases hk:l[k]? with _ | x
 .rw[hk] at h;simp at h
 .rw[hk] at h;simp at h;obtain⟨b,a⟩:=List.getElem?_eq_some_iff.1 hk;exact⟨b,by rw[a,h]⟩
theorem Reads.plain {w:World} {B n:Nat} {A:Option Addr} {c:List Value} (h:Reads w B 1 A n c) (f:0<n):∃ b o,A=some ⟨b,o,none⟩/\b<B/\∀ j u,c[j]?=some u->w.cell? ⟨b,o+j,none⟩=some u:=by
 obtain⟨ad,rfl,i,d⟩:=h.2 f;have g:0<c.length:=by have:=h.1;omega
 have a:=d 0 _ (bh g);obtain⟨b,o,s⟩:=ad;have l:s=none:=by
  cases s with
  | none=>rfl
  | some z =>
   rw[show Addr.add ⟨b,o,some z⟩ 0=⟨b,o,some z⟩ from rfl] at a;unfold World.cell? at a;simp at a;split at a <;> simp at a
 subst l;refine⟨b,o,rfl,i,λ j u k=>?_⟩;have:=d j u k;unfold Addr.add at this;split at this
 .rename_i e;subst e;exact this
 .exact this
abbrev dB (w:World) (B:Nat) (A:Option Addr) (l:List ByteArray):Prop:=Reads w B 1 A l.length (iZ l)
theorem dB.cells {w:World} {b o:Nat} {l:List ByteArray} (h:∀ j u,(iZ l)[j]?=some u->w.cell? ⟨b,o+j,none⟩=some u):∀ j,j<l.length->w.cell? ⟨b,o+j,none⟩=some (a0 (l.getD j ByteArray.empty)):=by
 intro j a;refine h j _ ?_;unfold iZ;rw[bq,bh a];simp[List.getD,a]
theorem kQ (A B:Option Addr) (c d B1 B2:Nat) (a b:List ByteArray) (w:World) (i:a.length<=maxLen) (p:b.length<=maxLen) (m:dB w B1 A a) (o:dB w B2 B b) :
  CS 16 #[a1 A a.length c,a1 B b.length d] w (a4 (decide (a=b))):=by
 unfold maxLen at i p;by_cases hl:a.length=b.length
 .rcases bd a.length with h | h
  .have j:=bb h;have l:=bb (hl.symm.trans h);subst j l;exact (Tryz.slices_Equal_string_empty A B c 0 d w (by decide)).mono λ _ _ ⟨f,g⟩=>⟨by rw[f];rfl,g▸Below.refl _ _⟩
  .obtain⟨b1,k,rfl,-,r⟩:=m.plain h;obtain⟨b2,n,rfl,-,s⟩:=o.plain (by omega);refine (Tryz.slices_Equal_string b1 k a.length c b2 n b.length d a b w (a6 _) (a6 _) (by omega) (by omega) (dB.cells r) (dB.cells s)).mono λ _ _ ⟨f,q,g⟩=>⟨by rw[f,br,br],g▸(Below.refl _ _).drewN q⟩
 .exact (Tryz.slices_Equal_string_lens A B a.length c b.length d w hl).mono λ _ _ ⟨f,g⟩=>⟨by rw[f,show decide (a=b)=false from decide_eq_false (λ e=>hl (by rw[e]))],g▸Below.refl _ _⟩
theorem uX (A:Option Addr) (c B1:Nat) (a:List ByteArray) (s:ByteArray) (w:World) (g:a.length<=maxLen) (j:dB w B1 A a) :
  He 90 #[a1 A a.length c,a0 s] w (a4 (Lib.containsS a s)):=by
 unfold maxLen at g;rcases bd a.length with b | b
 .have h:=bb b;subst h;exact (Tryz.slices_Contains_string_empty A c s w).mono λ _ _ ⟨d,f⟩=>⟨by rw[d];rfl,f.symm⟩
 .obtain⟨b1,i,rfl,-,k⟩:=j.plain b;refine (Tryz.slices_Contains_string b1 i a.length c a s w (a6 _) (by omega) (dB.cells k)).mono λ _ _ ⟨d,f⟩=>⟨?_,f.symm⟩;rw[d,br]
def R0 (v:Value):Option (DataW Value × List MemPlace):=some (.held v,[])
def gz (kv:List (ByteArray × Value)) (s:ByteArray):Option Value:=match kv with
 | []=>none
 | p :: r=>if p.1=s then some p.2 else gz r s
structure aS (w:World) (b:Nat) (kv:List (ByteArray × Value)):Prop where
 ex:∃ D,w.ownsMap Tryz.prog 9 R0 b kv.length D/\Maps.IsMap D/\∀ (s:ByteArray) zd,D.atKey (.string s.data.toList) zd=(match gz kv s with | some v=>.held v | none=>zd)
theorem keyS {s:ByteArray} (h:s.size<=maxLen):keyOf Tryz.prog 9 (.string s)=some (.string s.data.toList):=WideMaps.keyOf_string_mk Tryz.underlying9 h
theorem aS.made (w:World):aS (w.alloc (.map #[] 0)) w.heap.size []:=⟨⟨.map [],World.ownsMap_made w _ _ _,Maps.isMap_empty,λ _ _=>rfl⟩⟩
theorem aS.lt {w:World} {b:Nat} {a:List (ByteArray × Value)} (h:aS w b a):b<w.heap.size:=h.ex.choose_spec.1.lt
theorem aS.kept {w w':World} {b:Nat} {kv:List (ByteArray × Value)} {a:Option Nat} (h:aS w b kv) (g:w.grownBy w' a) (c:some b≠a):aS w' b kv:=by
 obtain⟨D,e,f,d⟩:=h.ex;exact⟨⟨D,e.kept g c,f,d⟩⟩
theorem aS.same {w w':World} {b:Nat} {kv:List (ByteArray × Value)} (h:aS w b kv) (i:w'.heap[b]?=w.heap[b]?):aS w' b kv:=by
 obtain⟨D,⟨g,a,e,d⟩,f,c⟩:=h.ex;exact⟨⟨D,⟨g,a,i.trans e,d⟩,f,c⟩⟩
theorem aS.alloc {w:World} {b:Nat} {kv:List (ByteArray × Value)} (h:aS w b kv) (o:Obj):aS (w.alloc o) b kv:=h.same (Below.heap_alloc w o b h.lt)
theorem aS.setCell {w:World} {b:Nat} {kv:List (ByteArray × Value)} (h:aS w b kv) {p:Addr} (a:b≠p.block) (u:Value):aS (w.setCell p u) b kv:=h.same (Below.heap_setCell w p u b a)
theorem aS.below {w w':World} {b B:Nat} {kv:List (ByteArray × Value)} (h:aS w b kv) (c:Below B w w') (a:b<B):aS w' b kv:=h.same (c.block b a)
theorem aS.look {w:World} {b:Nat} {d:List (ByteArray × Value)} (h:aS w b d) {t e:TypeId} (m:Tryz.prog.underlying t=some (.map 9 e)) {z:Value} (l:(zeroValue e).run Tryz.prog w = .ok z w) {s:ByteArray} (k:s.size<=maxLen) :
  (bc t (.map (some b)) (a0 s) true).run Tryz.prog w = .ok (.tuple #[(gz d s).getD z,a4 (gz d s).isSome]) w:=by
 obtain⟨D,n,o,f⟩:=h.ex;obtain⟨v,ps,c,i⟩:=n.look_ok (Maps.string_keyed Tryz.underlying9) m l (zd:=.held z) (zp:=[]) rfl (keyS k);rw[c];have j:=f s (.held z);have a:(DataW.held v:DataW Value)=D.atKey (.string s.data.toList) (.held z):=by
  unfold R0 at i;exact (Prod.mk.inj (Option.some.inj i)).1
 rw[j] at a;cases hg:gz d s with
 | none =>
  rw[hg] at a;have g:Maps.has D (.string s.data.toList)=false:=Maps.has_false_of_atKey (λ zd=>by rw[f s zd,hg]);rw[g];rw[DataW.held.inj a];rfl
 | some u =>
  rw[hg] at a;have g:Maps.has D (.string s.data.toList)=true:=Maps.has_true_of_atKey (y:=.held u) (λ zd=>by rw[f s zd,hg]);rw[g];rw[DataW.held.inj a];rfl
theorem aS.store {w':World} {b:Nat} {c:List (ByteArray × Value)} {D:DataW Value} {s:ByteArray} {v:Value} (d:Maps.IsMap D) (g:∀ (s:ByteArray) zd,D.atKey (.string s.data.toList) zd=(match gz c s with | some v=>.held v | none=>zd))
  (a:w'.ownsMap Tryz.prog 9 R0 b (c.length+1) (D.put (.string s.data.toList) (.held v))):aS w' b ((s,v) :: c):=by
 refine⟨⟨_,a,d.put _ _,λ t zd=>?_⟩⟩;rw[gz];by_cases h:s=t
 .subst h;rw[if_pos rfl,Maps.atKey_put_same d (show WideAt.IsKeyLit (.string _) from trivial)]
 .rw[if_neg h,Maps.atKey_put_other (λ e=>h ?_),g t zd];have f:t.data.toList=s.data.toList:=by injection e
  exact (ByteArray.ext (Array.toList_inj.1 f)).symm
theorem jk {w:World} {d:Array Oper} {c:List Oper} {o:Oper} {a:Act} {Q:Exit->Act->World->Prop} (u:o.guard=none) (m x v:Operand) (t e:TypeId) (h:o.op=Op.mapUpdate t m x v)
  (z:Tryz.prog.underlying t=some (.map 9 e)) {b:Nat} {g:List (ByteArray × Value)} {s:ByteArray} {val:Value} (y:a.eval m = .map (some b)) (f:aS w b g) (j:g.length<maxLen) (n:a.eval x = .string s) (i:a.eval v=val) (r:s.size<=maxLen)
  (k:∀ w',aS w' b ((s,val) :: g)->w.grownBy w' (some b)->wpList Tryz.prog d Q c (a.put o.dst undef) w') :
  wpList Tryz.prog d Q (o :: c) a w:=by
 obtain⟨D,A,B,p⟩:=f.ex;exact wpList_mapUpdate_own w u m x v t h 9 e (Maps.string_keyed Tryz.underlying9) z R0 b g.length D y A j (.string s) val (.string s.data.toList) n i (keyS r) (.held val) [] rfl
  (λ w' q l=>k w' (aS.store B p q) l)
def au {α:Type} (P:World->Nat->α->List Value->Prop) (size:Nat) (w:World) (B:Nat) (A:Option Addr) (l:List α):Prop:=
 l.length<=maxLen/\∃ cs,Reads w B size A l.length cs/\∀ i (h:i<l.length),P w B l[i] ((cs.drop (i*size)).take size)
section
variable {α:Type} {P:World->Nat->α->List Value->Prop} {size B:Nat} {w w':World} {A:Option Addr} {l:List α}
theorem au.at_ (h:au P size w B A l) {i:Nat} (e:i<l.length):∃ ad b,A=some ad/\ad.block<B/\P w B l[i] b/\∀ j u,b[j]?=some u->w.cell? ((ad.add (i*size)).add j)=some u:=by
 obtain⟨-,cs,f,c⟩:=h;obtain⟨ad,rfl,g,d⟩:=f.2 (by omega);refine⟨ad,_,rfl,g,c i e,λ j u a=>?_⟩;rw[kC];refine d _ u ?_;rw[bp] at a;split at a
 .rw[bx] at a;exact a
 .cases a
theorem au.keep (e:∀ d cs,P w B d cs->P w' B d cs) (h:au P size w B A l) (g:Below B w w'):au P size w' B A l:=by
 obtain⟨b,cs,f,a⟩:=h;exact⟨b,cs,f.below g,λ i c=>e _ _ (a i c)⟩
end
structure bP where
 nm:ByteArray
 loops:List ByteArray
structure aY where
 nm:ByteArray
 kind:Int
 loops:List ByteArray
structure oO (w:World) (B:Nat) (d:bP) (cs:List Value):Prop where
 ex:∃ A c,cs = [a0 d.nm,a1 A d.loops.length c]/\dB w B A d.loops/\d.loops.length<=c
 h1:d.nm.size<=maxLen
 h2:d.loops.length<=maxLen
 h3:∀ s∈d.loops,s.size<=maxLen
structure oP (w:World) (B:Nat) (d:aY) (cs:List Value):Prop where
 ex:∃ A c,cs = [a0 d.nm,aR aZ d.kind,a1 A d.loops.length c]/\dB w B A d.loops/\d.loops.length<=c
 h1:d.nm.size<=maxLen
 h2:d.loops.length<=maxLen
 h3:∀ s∈d.loops,s.size<=maxLen
theorem oO.keep {w w':World} {B:Nat} {d:bP} {cs:List Value} (h:oO w B d cs) (i:Below B w w'):oO w' B d cs:=by
 obtain⟨⟨A,c,e,a,f⟩,g,j,b⟩:=h;exact⟨⟨A,c,e,a.below i,f⟩,g,j,b⟩
theorem oP.keep {w w':World} {B:Nat} {d:aY} {cs:List Value} (h:oP w B d cs) (i:Below B w w'):oP w' B d cs:=by
 obtain⟨⟨A,c,e,a,f⟩,g,j,b⟩:=h;exact⟨⟨A,c,e,a.below i,f⟩,g,j,b⟩
abbrev qK:=au oO 2
abbrev fJ:=au oP 3
theorem qK.keep {w w':World} {B:Nat} {A:Option Addr} {l:List bP} (h:qK w B A l) (a:Below B w w'):qK w' B A l:=au.keep (λ _ _ h=>h.keep a) h a
theorem fJ.keep {w w':World} {B:Nat} {A:Option Addr} {l:List aY} (h:fJ w B A l) (a:Below B w w'):fJ w' B A l:=au.keep (λ _ _ h=>h.keep a) h a
theorem dB.take {w:World} {B:Nat} {A:Option Addr} {l:List ByteArray} (h:dB w B A l) (k:Nat):dB w B A (l.take k):=by
 refine⟨by rw[zx];simp,λ d=>?_⟩;have f:(l.take k).length<=l.length:=List.length_take_le' _ _;obtain⟨ad,e,c,b⟩:=h.2 (by omega);refine⟨ad,e,c,λ j u a=>b j u ?_⟩;unfold iZ at a ⊢;rw[List.map_take,bp] at a;split at a
 .exact a
 .cases a
def jW (loops:List bP) (at_:List ByteArray):Bool:=match at_.getLast? with
 | none=>true
 | some z=>loops.any (λ n=>decide (n.nm=z) && decide (n.loops=at_.dropLast))
def bY (prev:List aY) (c:aY):Int:=if bz c.nm.data.toList=false then 5 else if prev.any (λ d=>decide (d.nm=c.nm))=true then 6 else if bu c.kind 2 7=true then 4 else 0
def bZ (prev:List bP) (n:bP):Int:=if bz n.nm.data.toList=false then 5 else if prev.any (λ d=>decide (d.nm=n.nm))=true then 6 else if jW prev n.loops=false then 7 else 0
def gB {α:Type} (f:List α->α->Int):List α->List α->Int
 | _,[]=>0
 | prev,a :: r=>if f prev a≠0 then f prev a else gB f (prev ++ [a]) r
def gG (cells:List aY) (loops:List bP):Int:=
 if gB bY [] cells≠0 then gB bY [] cells else if gB bZ [] loops≠0 then gB bZ [] loops else
 if cells.any (λ c=>!jW loops c.loops)=true then 9 else 0
structure Lr (w:World) (B:Nat) (kv:List (ByteArray × Value)) (l:List bP):Prop where
 no:∀ s,gz kv s=none->∀ d∈l,d.nm≠s
 yes:∀ s v,gz kv s=some v->∃ d cs,d∈l/\d.nm=s/\v = .agg cs.toArray/\oO w B d cs
 len:kv.length=l.length
 one:l.Pairwise (λ a b=>a.nm≠b.nm)
structure MI (w:World) (B:Nat) (kv:List (ByteArray × Value)) (l:List aY):Prop where
 no:∀ s,gz kv s=none->∀ d∈l,d.nm≠s
 yes:∀ s v,gz kv s=some v->∃ d cs,d∈l/\d.nm=s/\v = .agg cs.toArray/\oP w B d cs
 len:kv.length=l.length
 one:l.Pairwise (λ a b=>a.nm≠b.nm)
theorem Lr.keep {w w':World} {B:Nat} {a:List (ByteArray × Value)} {l:List bP} (h:Lr w B a l) (i:Below B w w'):Lr w' B a l:=
 ⟨h.no,λ s v e=>by obtain⟨d,cs,f,g,b,c⟩:=h.yes s v e;exact⟨d,cs,f,g,b,c.keep i⟩,h.len,h.one⟩
theorem MI.keep {w w':World} {B:Nat} {a:List (ByteArray × Value)} {l:List aY} (h:MI w B a l) (i:Below B w w'):MI w' B a l:=
 ⟨h.no,λ s v e=>by obtain⟨d,cs,f,g,b,c⟩:=h.yes s v e;exact⟨d,cs,f,g,b,c.keep i⟩,h.len,h.one⟩
theorem Lr.nil (w:World) (B:Nat):Lr w B [] []:=⟨(λ _ _ d b=>by cases b),(λ s v a=>by cases a),rfl,List.Pairwise.nil⟩
theorem MI.nil (w:World) (B:Nat):MI w B [] []:=⟨(λ _ _ d b=>by cases b),(λ s v a=>by cases a),rfl,List.Pairwise.nil⟩
theorem Lr.add {w:World} {B:Nat} {j:List (ByteArray × Value)} {l:List bP} (h:Lr w B j l) {d:bP} {cs:List Value} (u:oO w B d cs) (m:gz j d.nm=none):Lr w B ((d.nm,.agg cs.toArray) :: j) (l ++ [d]):=by
 refine⟨λ s f x o=>?_,λ s v c=>?_,by simp[h.len],?_⟩
 .rw[gz] at f;split at f
  .cases f
  .rename_i i;rcases bK.1 o with e | e
   .exact h.no s f x e
   .rw[bi] at e;subst e;exact i
 .rw[gz] at c;split at c
  .rename_i n;injection c with c;exact⟨d,cs,by simp,n,c.symm,u⟩
  .obtain⟨q,g,e,y,p,r⟩:=h.yes s v c;exact⟨q,g,bL _ e,y,p,r⟩
 .rw[bN];refine⟨h.one,bO _ _,λ a t b k=>?_⟩;rw[bi] at k;subst k;exact h.no _ m a t
theorem MI.add {w:World} {B:Nat} {j:List (ByteArray × Value)} {l:List aY} (h:MI w B j l) {d:aY} {cs:List Value} (u:oP w B d cs) (m:gz j d.nm=none):MI w B ((d.nm,.agg cs.toArray) :: j) (l ++ [d]):=by
 refine⟨λ s f x o=>?_,λ s v c=>?_,by simp[h.len],?_⟩
 .rw[gz] at f;split at f
  .cases f
  .rename_i i;rcases bK.1 o with e | e
   .exact h.no s f x e
   .rw[bi] at e;subst e;exact i
 .rw[gz] at c;split at c
  .rename_i n;injection c with c;exact⟨d,cs,by simp,n,c.symm,u⟩
  .obtain⟨q,g,e,y,p,r⟩:=h.yes s v c;exact⟨q,g,bL _ e,y,p,r⟩
 .rw[bN];refine⟨h.one,bO _ _,λ a t b k=>?_⟩;rw[bi] at k;subst k;exact h.no _ m a t
theorem Jw {α:Type} {f:α->ByteArray} {l:List α} (h:l.Pairwise (λ a b=>f a≠f b)) {a b:α} (g:a∈l) (i:b∈l) (e:f a=f b):a=b:=by
 induction l with
 | nil=>cases g
 | cons x r ih =>
  rw[List.pairwise_cons] at h;rcases bj.1 g with c | c <;> rcases bj.1 i with d | d
  .rw[c,d]
  .subst c;exact absurd e (h.1 b d)
  .subst d;exact absurd e.symm (h.1 a c)
  .exact ih h.2 c d
theorem PS {w:World} {B:Nat} {a:List (ByteArray × Value)} {l:List bP} (h:Lr w B a l) {at_:List ByteArray} {z:ByteArray} (g:at_.getLast?=some z) :
  (gz a z=none/\jW l at_=false)\/∃ d cs,gz a z=some (.agg cs.toArray)/\oO w B d cs/\d∈l/\jW l at_=decide (d.loops=at_.dropLast):=by
 cases hg:gz a z with
 | none =>
  refine .inl ⟨rfl,?_⟩;unfold jW;rw[g];simp only;rw[bR];intro d n;have:=h.no z hg d n;simp[this]
 | some v =>
  obtain⟨d,cs,c,i,k,m⟩:=h.yes z v hg;refine .inr ⟨d,cs,by rw[k],m,c,?_⟩;unfold jW;rw[g];simp only;rw[ba,bS,decide_eq_true_iff];constructor
  .rintro ⟨x,j,b⟩;rw[bT,decide_eq_true_iff,decide_eq_true_iff] at b;have:=Jw (f:=bP.nm) h.one j c (by rw[b.1,i]);subst this;exact b.2
  .intro e;exact⟨d,c,by rw[bT,decide_eq_true_iff,decide_eq_true_iff];exact⟨i,e⟩⟩
theorem MJ {α:Type} {f:α->ByteArray} {l:List α} {s:ByteArray} (h:∀ d∈l,f d≠s):l.any (λ d=>decide (f d=s))=false:=by
 rw[bR];intro d a;simpa using h d a
theorem Iz {α:Type} {f:α->ByteArray} {l:List α} {s:ByteArray} {d:α} (a:d∈l) (h:f d=s):l.any (λ d=>decide (f d=s))=true:=bS.2 ⟨d,a,by simpa using h⟩
end Go.Proofs.YtcnagconagpkcaaGreatDoor
namespace Go.Proofs.YtcnagconagpkcaaGreatDoor
open Go.RowKit
attribute [local go_sem ↓] Go.wp_at_zero Go.wp_at_succ
theorem rV (w:World):(zeroValue 184).run Tryz.prog w = .ok (.agg #[a0 ⟨#[]⟩,a1 none 0 0]) w:=by kernel_rfl
theorem aa3 {l:List ByteArray} (h:0<l.length):∃ z,l.getLast?=some z/\l[l.length - 1]?=some z:=by
 have a:l.length - 1<l.length:=by omega
 refine⟨l[l.length - 1],?_,bh a⟩;rw[List.getLast?_eq_getElem?];exact bh a
theorem yE (at_:List ByteArray) (A:Option Addr) (c M j B:Nat) (X:List (ByteArray × Value)) (l:List bP) (w:World) (ha:at_.length<=maxLen) (Y:∀ s∈at_,s.size<=maxLen) (hx:dB w B A at_) (hc:at_.length<=c) (hB:B<=w.heap.size) (hm:aS w j X) (J:Lr w B X l) :
  CS 122 #[.agg #[.map (some M),.map (some j)],a1 A at_.length c] w (a4 (jW l at_)):=by
 have N:=qh (a7 hx hB);have HM:=qh hm;have T:=qh J;have HS:=qh Y;have HA:=qh ha;have ac:((at_.length:Nat):Int) - 1<=(c:Nat):=by omega
 unfold maxLen at ha;clear hx hB hm J Y;rcases bd at_.length with F | F
 .have e1:=bb F;subst e1;clear F;go_enter Tryz.func122,Tryz.ntmps122;go_wp2_with (fail);go_ret;exact⟨rfl,(Below.refl _ _).alloc (a6 _) _⟩
 .obtain⟨z,hz,v⟩:=aa3 F;obtain⟨b,o,rfl,hb,n⟩:=N.o.1.plain F;have x:w.cell? ⟨b,o+(at_.length - 1),none⟩=some (a0 z):=n _ _ (by unfold iZ;rw[bq,v];rfl);have y:z.size<=maxLen:=HS.o z (List.mem_of_getElem? v);have HN:=qh (PS T.o hz);have ad:(1:Int)<=(at_.length:Nat):=by omega
  have bn:((at_.length:Int) == 0)=false:=by rw[beq_eq_false_iff_ne];omega
  clear n hz v;have P:b<w.heap.size:=by have:=N.o.2;omega
  have R:=qh N.o;clear N;go_enter Tryz.func122,Tryz.ntmps122;go_upto_region 3 with (fail);obtain⟨W,E⟩:=aH ((w.alloc (a3 #[.map (some M),.map (some j)] 162 (0,0))));have i:EG w W:=by rw[E];exact ((Below.refl _ w).alloc (a6 _) _)
  have B0:ag W (w.heap.size) 162 #[.map (some M),.map (some j)]:=by
   rw[E];have:=ag.new w 162 #[.map (some M),.map (some j)];exact this
  have S:W.heap.size=w.heap.size+1:=by rw[E];simp
  rw[<- E];clear S;have L:=qh (HM.o.below i HM.o.lt);have H:W.cell? ⟨b,o+(at_.length - 1),none⟩=some (a0 z):=by rw[i.cell (by exact P)];exact x
  have G:W.cell? ⟨w.heap.size,1,none⟩=some (.map (some j)):=B0.cell 1;clear x E;have i0:IntKind.i64.wrap ((at_.length:Int) - 1)=(at_.length:Int) - 1:=IntWalk.i64_in _ (by omega);have i1:((at_.length:Int) - 1).toNat=at_.length - 1:=by omega
  have i2:(0:Int)<=(at_.length:Int) - 1:=by omega
  have i3:(at_.length:Int) - 1<(at_.length:Int):=by omega
  rcases HN.o with ⟨K,C⟩ | ⟨d,ds,K,hd,aa,C⟩
  .skip
   have r:∀ w',EG W w'->(bc 160 (.map (some j)) (a0 z) true).run Tryz.prog w' = .ok (.tuple #[.agg #[a0 ⟨#[]⟩,a1 none 0 0],a4 false]) w':=λ w' t=>by
    have h:=(L.o.below t L.o.lt).look Tryz.underlying160 (rV w') y;rw[K] at h;exact h
   have q:=qh r;have O:=qh C;have V:=q.o W (Below.refl _ _);have a:=Below.refl W.heap.size W;have k:=qh (λ w' (u:EG W w')=>a7 (Below.cell_of u G) (a7 (Below.cell_of u H) (a7 (q.o w' u) u)));clear r C K;go_region_held3 (λ w'=>w'.cell? ⟨w.heap.size,1,none⟩=some (.map (some j))/\w'.cell? ⟨b,o+(at_.length - 1),none⟩=some (a0 z)/\(bc 160 (.map (some j)) (a0 z) true).run Tryz.prog w' = .ok (.tuple #[.agg #[a0 ⟨#[]⟩,a1 none 0 0],a4 false]) w'/\EG W w') (first | exact k.o _ a.drew | exact k.o _ (a.alloc (a6 _) _) | exact k.o _ (a.alloc (a6 _) _).drew | exact k.o _ (a.drew.alloc (a6 _) _) | exact k.o _ a) (fail)
   all_goals
    obtain⟨W2,g⟩:=aH ((W.alloc (a3 #[a0 ⟨#[]⟩,a1 none 0 0] 184 (0,0))).drew);have p:EG W W2:=g▸((Below.refl _ W).alloc (a6 _) _).drew;have f:=i.trans (p.mono i.size);have B2:ag W2 W.heap.size 184 #[a0 ⟨#[]⟩,a1 none 0 0]:=g▸(ag.new W _ _).drew;rw[<- g];clear g;clear p B2;go_upto_region 4 with (fail);go_quiet (fail);go_wp2_with (fail);go_ret;exact⟨aj (by rw[O.o]),f.drewN _⟩
  .obtain⟨⟨A',c',rfl,MK,ab⟩,ae,D,U⟩:=hd;have CY:=qh (a7 MK D);clear MK D U;have r:∀ w',EG W w'->(bc 160 (.map (some j)) (a0 z) true).run Tryz.prog w' = .ok (.tuple #[.agg #[a0 d.nm,a1 A' d.loops.length c'],a4 true]) w':=λ w' t=>by
    have h:=(L.o.below t L.o.lt).look Tryz.underlying160 (rV w') y;rw[K] at h;exact h
   have q:=qh r;have O:=qh C;have V:=q.o W (Below.refl _ _);have a:=Below.refl W.heap.size W;have k:=qh (λ w' (u:EG W w')=>a7 (Below.cell_of u G) (a7 (Below.cell_of u H) (a7 (q.o w' u) u)));clear r C K;go_region_held3 (λ w'=>w'.cell? ⟨w.heap.size,1,none⟩=some (.map (some j))/\w'.cell? ⟨b,o+(at_.length - 1),none⟩=some (a0 z)/\(bc 160 (.map (some j)) (a0 z) true).run Tryz.prog w' = .ok (.tuple #[.agg #[a0 d.nm,a1 A' d.loops.length c'],a4 true]) w'/\EG W w') (first | exact k.o _ a.drew | exact k.o _ (a.alloc (a6 _) _) | exact k.o _ (a.alloc (a6 _) _).drew | exact k.o _ (a.drew.alloc (a6 _) _) | exact k.o _ a) (fail)
   all_goals
    obtain⟨W2,g⟩:=aH ((W.alloc (a3 #[a0 d.nm,a1 A' d.loops.length c'] 184 (0,0))).drew);have p:EG W W2:=g▸((Below.refl _ W).alloc (a6 _) _).drew;have f:=i.trans (p.mono i.size);have B2:ag W2 W.heap.size 184 #[a0 d.nm,a1 A' d.loops.length c']:=g▸(ag.new W _ _).drew;rw[<- g];clear g;have m:(at_.take (at_.length - 1)).length=at_.length - 1:=by rw[List.length_take];omega
    have Z:∀ w':World,EG W2 w'->CS 16 #[a1 A' d.loops.length c',a1 (some ⟨b,o,none⟩) (at_.length - 1) c] w' (a4 (decide (d.loops=at_.dropLast))):=λ w' t=>by
     have I:=f.trans (t.mono f.size);have h:=kQ A' (some ⟨b,o,none⟩) c' c B B d.loops (at_.take (at_.length - 1)) w' CY.o.2 (by rw[m];have:=HA.o;omega) (CY.o.1.below (I.mono R.o.2)) ((R.o.1.take _).below (I.mono R.o.2));rw[m,<- List.dropLast_eq_take] at h;exact h
    have K1:=qh (Later.call Z);have r1:=Later.cell (show W2.cell? ⟨W.heap.size,1,none⟩=some (a1 A' d.loops.length c') from B2.cell 1);clear Z p B2 m;go_upto_region 4 with (fail);refine aO (by kernel_rfl) (by kernel_rfl) ?_
    repeat (go_big_quiet_step (with_reducible exact K1.o _))
    refine wpQuiet_nil ?_;intro _ Q;obtain⟨⟨W9,jl⟩,rfl⟩:=Q;go_wp2_with fail;go_ret;exact⟨aj (by rw[O.o]),f.trans (jl.mono f.size)⟩
end Go.Proofs.YtcnagconagpkcaaGreatDoor
