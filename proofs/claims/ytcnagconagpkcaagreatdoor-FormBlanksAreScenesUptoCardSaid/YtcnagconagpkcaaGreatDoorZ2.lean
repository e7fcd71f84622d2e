/- Lemmas. -/
import Derived.Test.YtcnagconagpkcaaGreatDoorZ1
import Derived.Test.YtcnagconagpkcaaGreatDoorZSh
set_option maxHeartbeats 8000000
set_option maxRecDepth 100000
open Go.Value renaming int->aM, string->a0, slice->a1, bool->a2
open Go.IntKind renaming i64->aR
open Go.Ending renaming returned->a3, returned->bk
open Nat renaming le_refl->a4, le_trans->a8, zero_le->a9, pos_iff_ne_zero->bd, eq_zero_or_pos->bi
open And renaming intro->a5
open Bool renaming eq_iff_iff->a6, eq_false_iff->be
open Go.ByteArray renaming toList_eq->a7
open List renaming contains_iff_mem->ba, drop_eq_getElem_cons->bb, getElem_mem->bc, all_eq_true->bh, eq_nil_of_length_eq_zero->bj, take_of_length_le->bl, length_eq_zero_iff->bm, isEmpty_iff->bn, drop_eq_nil_of_le->bo
namespace Go.Proofs.YtcnagconagpkcaaGreatDoor
open Go.RowKit
theorem oL (c:UInt8) (w:World) :
  KG 55 #[.int .u8 (c.toNat:Nat)] w (a2 (nN c)):=by
 go_enter Tryz.func55,Tryz.ntmps55;go_wp2
 all_goals (go_ret;exact⟨au (by unfold nN;rw[a6];simp;try omega),rfl⟩)
theorem jo (c:UInt8) (w:World) :
  KG 57 #[.int .u8 (c.toNat:Nat)] w (a2 (fC c)):=by
 go_enter Tryz.func57,Tryz.ntmps57;go_wp2
 all_goals (go_ret;exact⟨au (by unfold fC nN;rw[a6];simp;try omega),rfl⟩)
theorem Kq (c:UInt8) (w:World) :
  KG 132 #[.int .u8 (c.toNat:Nat)] w (a2 (fC c)):=by
 go_enter Tryz.func132,Tryz.ntmps132;go_wp2
 all_goals (go_ret;exact⟨au (by unfold fC nN;rw[a6];simp;try omega),rfl⟩)
theorem E8 (s:ByteArray) (w:World) (h:s.data.toList∈bH) :
  KG 56 #[a0 s] w (a2 true):=by
 have b:s=⟨#[97,110,100]⟩\/s=⟨#[111,114]⟩\/s=⟨#[110,111,116]⟩\/s=⟨#[105,110]⟩\/s=⟨#[104,97,115]⟩\/s=⟨#[109,111,100]⟩\/s=⟨#[116,114,117,101]⟩\/s=⟨#[102,97,108,115,101]⟩:=by
  have a:∀ l:List UInt8,s.data.toList=l->s=⟨l.toArray⟩:=λ l e=>by subst e;rfl
  simp only[bH,List.mem_cons,List.mem_nil_iff,or_false] at h;rcases h with h | h | h | h | h | h | h | h
  .exact .inl (a _ h)
  .exact .inr (.inl (a _ h))
  .exact .inr (.inr (.inl (a _ h)))
  .exact .inr (.inr (.inr (.inl (a _ h))))
  .exact .inr (.inr (.inr (.inr (.inl (a _ h)))))
  .exact .inr (.inr (.inr (.inr (.inr (.inl (a _ h))))))
  .exact .inr (.inr (.inr (.inr (.inr (.inr (.inl (a _ h)))))))
  .exact .inr (.inr (.inr (.inr (.inr (.inr (.inr ((a _ h))))))))
 rcases b with rfl | rfl | rfl | rfl | rfl | rfl | rfl | rfl
 all_goals
  go_enter Tryz.func56,Tryz.ntmps56;go_wp2;go_ret;exact⟨rfl,rfl⟩
theorem IA (s:ByteArray) (w:World) (h:s.data.toList ∉ bH) :
  KG 56 #[a0 s] w (a2 false):=by
 have c:(s.toList == [97,110,100])=false:=by rw[a7,beq_eq_false_iff_ne];exact λ e=>h (by rw[e];decide)
 have j:(s.toList == [111,114])=false:=by rw[a7,beq_eq_false_iff_ne];exact λ e=>h (by rw[e];decide)
 have f:(s.toList == [110,111,116])=false:=by rw[a7,beq_eq_false_iff_ne];exact λ e=>h (by rw[e];decide)
 have d:(s.toList == [105,110])=false:=by rw[a7,beq_eq_false_iff_ne];exact λ e=>h (by rw[e];decide)
 have a:(s.toList == [104,97,115])=false:=by rw[a7,beq_eq_false_iff_ne];exact λ e=>h (by rw[e];decide)
 have i:(s.toList == [109,111,100])=false:=by rw[a7,beq_eq_false_iff_ne];exact λ e=>h (by rw[e];decide)
 have b:(s.toList == [116,114,117,101])=false:=by rw[a7,beq_eq_false_iff_ne];exact λ e=>h (by rw[e];decide)
 have g:(s.toList == [102,97,108,115,101])=false:=by rw[a7,beq_eq_false_iff_ne];exact λ e=>h (by rw[e];decide)
 clear h;go_enter Tryz.func56,Tryz.ntmps56;go_wp2;go_ret;exact⟨rfl,rfl⟩
theorem nz (s:ByteArray) (w:World) :
  KG 56 #[a0 s] w (a2 (bH.contains s.data.toList)):=by
 by_cases h:s.data.toList∈bH
 .rw[ba.2 h];exact E8 s w h
 .rw[show bH.contains s.data.toList=false from by rw[be];exact λ e=>h (ba.1 e)];exact IA s w h
theorem Ac {s:List UInt8} (h:s = []):aV s=false:=by subst h;rfl
theorem DC {s:List UInt8} (h:16<s.length):aV s=false:=by
 unfold aV;rw[show decide (s.length<=16)=false by simp;omega];simp
theorem yY {c:UInt8} {r:List UInt8} (h:nN c=false):aV (c :: r)=false:=by simp[aV,h]
theorem Fa {s:List UInt8} (h:bH.contains s=true):aV s=false:=by simp only[aV,h];simp
theorem DD {c:UInt8} {r:List UInt8} (a:(c :: r).length<=16) (b:nN c=true) (d:bH.contains (c :: r)=false):aV (c :: r)=(c :: r).all fC:=by
 simp only[aV,b,d];simp;intro _ _;simpa using a
theorem head_cons {s:ByteArray} (h:0<s.size):s.data.toList=s[0] :: s.data.toList.tail:=by
 have a:0<s.data.toList.length:=h;rw[show s.data.toList.tail=s.data.toList.drop 1 by simp];have:=bb a;rw[List.drop_zero] at this;rw[this];rfl
theorem Ns {s:ByteArray} {k:Nat} {p:UInt8->Bool} (h:k<s.size) (b:(s.data.toList.take k).all p=true):(s.data.toList.take (k+1)).all p=p s[k]:=by
 have a:k<s.data.toList.length:=h;rw[List.take_succ_eq_append_getElem a,List.all_append,b];simp;rfl
theorem SI {s:ByteArray} {k:Nat} {p:UInt8->Bool} (h:k<s.size) (b:p s[k]=false):s.data.toList.all p=false:=by
 have a:k<s.data.toList.length:=h;rw[be];intro e;rw[bh] at e;have:=e s.data.toList[k] (bc a);rw[show s.data.toList[k]=s[k] from rfl,b] at this;cases this
theorem lU (s:ByteArray) (w:World) (B:s.size<=maxLen) :
  KG 23 #[a0 s] w (a2 (aV s.data.toList)):=by
 unfold maxLen at B;have d:s.data.toList.length=s.size:=rfl;by_cases h0:s=⟨#[]⟩
 .have f:=qh (Ac (s:=s.data.toList) (by rw[h0]));subst h0;go_enter Tryz.func23,Tryz.ntmps23;go_wp2_with fail;go_ret;exact⟨au (by rw[f.o]),rfl⟩
 have v:0<s.size:=by
  rcases bi s.size with h | h
  .exact absurd (ByteArray.ext (Array.toList_inj.1 (bj (d.trans h)))) h0
  .exact h
 have D:s.toList.isEmpty=false:=by rw[a7];cases hh:s.data.toList with
  | nil=>rw[hh] at d;simp at d;omega
  | cons a r=>rfl
 have p:=qh (head_cons v);by_cases h1:16<s.size
 .have f:=qh (DC (s:=s.data.toList) h1);have b1:decide ((16:Int)<(s.size:Nat))=true:=by simp;omega
  clear h0 d h1;go_enter Tryz.func23,Tryz.ntmps23;go_wp2_with fail;go_ret;exact⟨au (by rw[f.o]),rfl⟩
 have b1:decide ((16:Int)<(s.size:Nat))=false:=by simp;omega
 by_cases h2:nN s[0]=true;rotate_left
 .have f:=qh (show aV s.data.toList=false by rw[p.o];exact yY (by simpa using h2));have l:=qh (show ∀ w',Calls Tryz.prog 55 #[.int .u8 (s[0].toNat:Nat)] w' λ e c=>e = a3 (a2 false)/\w'=c from λ w'=>by
   have h:=oL s[0] w'
   rwa [show nN s[0]=false by simpa using h2] at h)
  clear h0 d h1 h2;go_enter Tryz.func23,Tryz.ntmps23;go_wp2_with fail;refine (l.o _).mono ?_;rintro e j ⟨rfl,rfl⟩;go_wp2_with fail;go_ret;exact⟨au (by rw[f.o]),rfl⟩
 have l:=qh (show ∀ w',Calls Tryz.prog 55 #[.int .u8 (s[0].toNat:Nat)] w' λ e c=>e = a3 (a2 true)/\w'=c from λ w'=>by
  have h:=oL s[0] w'
  rwa [h2] at h)
 by_cases h3:bH.contains s.data.toList=true
 .have f:=qh (Fa h3);have n:=qh (show ∀ w',Calls Tryz.prog 56 #[a0 s] w' λ e c=>e = a3 (a2 true)/\w'=c from λ w'=>by
   have h:=nz s w'
   rwa [h3] at h)
  clear h0 d h1 h2 h3;go_enter Tryz.func23,Tryz.ntmps23;go_wp2_with fail;refine (l.o _).mono ?_;rintro e j ⟨rfl,rfl⟩;go_wp2_with fail;refine (n.o _).mono ?_;rintro e j ⟨rfl,rfl⟩;go_wp2_with fail;go_ret;exact⟨au (by rw[f.o]),rfl⟩
 have g:bH.contains s.data.toList=false:=by simpa using h3
 have n:=qh (show ∀ w',Calls Tryz.prog 56 #[a0 s] w' λ e c=>e = a3 (a2 false)/\w'=c from λ w'=>by
  have h:=nz s w'
  rwa [g] at h)
 have f:=qh (show aV s.data.toList=s.data.toList.all fC by
  rw[p.o] at g ⊢;exact DD (by rw[<- p.o];omega) h2 g)
 have C:s.size<=16:=by omega
 clear h0 d h1 h2 h3 g;go_enter Tryz.func23,Tryz.ntmps23;go_wp2_with fail;refine (l.o _).mono ?_;rintro e j ⟨rfl,rfl⟩;go_wp2_with fail;refine (n.o _).mono ?_;rintro e j ⟨rfl,rfl⟩;clear l n;go_wp2_with fail
 go_loop [3] (λ i=>∃ k:Nat,k<=s.size/\i = aM aR k/\Hid ((s.data.toList.take k).all fC=true)) (λ i=>s.size - (intOf i).toNat)
 case atStart=>exact⟨0,a9 _,rfl,qh rfl⟩
 case round =>
  obtain⟨k,E,rfl,t⟩:=hrel;by_cases hlt:k<s.size
  .obtain⟨b,m⟩:=af (fC s[k]);have y:=qh m;have u:=qh ((Ns hlt t.o).trans m);have o:=qh hlt;have HW:=qh (show Calls Tryz.prog 57 #[.int .u8 (s[k].toNat:Nat)] w λ e c=>e = a3 (a2 b)/\w=c from by
    exact (jo s[k] w).mono λ e c ⟨z,A⟩=>⟨z.trans (congrArg (λ x=>bk (a2 x)) m),A⟩)
   clear m;go_wp2_with fail;refine HW.o.mono ?_;rintro e j ⟨rfl,rfl⟩;cases b
   .have q:=qh (SI o.o y.o);go_wp2_with fail;go_ret;exact⟨au (by rw[f.o,q.o]),rfl⟩
   .go_wp2_with fail
    go_round
    case rel=>exact⟨k+1,o.o,by go_num,u⟩
    case measure =>
     have:=o.o;simp[intOf];omega
  .have q:=qh (show s.data.toList.all fC=true by
    have h:=t.o
    rwa [bl (by show s.size<=k;omega)] at h)
   go_wp2_with fail;go_ret;exact⟨au (by rw[f.o,q.o]),rfl⟩
abbrev Sp (w:World):Prop:=Lib.TabIs Tryz.prog w "strings.asciiSpace" .u8 Lib.asciiSpaceTab
theorem aA {w w':World} {n:String} {k:IntKind} {l:List Int} (h:Lib.TabIs Tryz.prog w n k l) (c:IY w w'):Lib.TabIs Tryz.prog w' n k l:=by
 unfold Lib.TabIs World.var? at *;cases hg:Tryz.prog.globalNamed n with
 | none=>rw[hg] at h;cases h
 | some g =>
  rw[hg] at h;simp only[Option.bind_some] at h ⊢;have b:g<w.heap.size:=by
   rcases Nat.lt_or_ge g w.heap.size with a | a
   .exact a
   .rw[Array.getElem?_eq_none a] at h;cases h
  rw[c.block g b];exact h
theorem Un (l:List UInt8) (h:l.all (λ b=>decide (b.toNat<128))=true):∀ (j:Nat) b,l[j]?=some b->b.toNat<128:=λ j b a=>by
 rw[bh] at h;have:=h b (List.mem_of_getElem? a);simpa using this
theorem Qk (w:World) (h:Sp w) :
  Calls Tryz.prog 131 #[a0 ⟨#[97,110,100,32,111,114,32,110,111,116,32,105,110,32,104,97,115,32,109,111,100,32,116,114,117,101,32,102,97,108,115,101]⟩] w λ e w'=>e = a3 (a1 (some ⟨w.heap.size,0,none⟩) 8 8)/\w'=w.alloc (.cells #[a0 ⟨#[97,110,100]⟩,a0 ⟨#[111,114]⟩,a0 ⟨#[110,111,116]⟩,a0 ⟨#[105,110]⟩,a0 ⟨#[104,97,115]⟩,a0 ⟨#[109,111,100]⟩,a0 ⟨#[116,114,117,101]⟩,a0 ⟨#[102,97,108,115,101]⟩] 9):=by
 have e:Lib.fields (⟨#[97,110,100,32,111,114,32,110,111,116,32,105,110,32,104,97,115,32,109,111,100,32,116,114,117,101,32,102,97,108,115,101]⟩:ByteArray).data.toList=bH:=by decide +kernel
 have a:=Tryz.strings_Fields ⟨#[97,110,100,32,111,114,32,110,111,116,32,105,110,32,104,97,115,32,109,111,100,32,116,114,117,101,32,102,97,108,115,101]⟩ w (by decide) (Un _ (by decide +kernel)) h;rw[e] at a;exact a
theorem Kr (b:Nat) (s:ByteArray) (w:World) (h:ah w b 9 #[a0 ⟨#[97,110,100]⟩,a0 ⟨#[111,114]⟩,a0 ⟨#[110,111,116]⟩,a0 ⟨#[105,110]⟩,a0 ⟨#[104,97,115]⟩,a0 ⟨#[109,111,100]⟩,a0 ⟨#[116,114,117,101]⟩,a0 ⟨#[102,97,108,115,101]⟩]) :
  KG 90 #[a1 (some ⟨b,0,none⟩) 8 8,a0 s] w (a2 (bH.contains s.data.toList)):=by
 have a:(bH.map (λ l=>(⟨l.toArray⟩:ByteArray))).length=8:=rfl;refine (Tryz.slices_Contains_string b 0 8 8 (bH.map (λ l=>(⟨l.toArray⟩:ByteArray))) s w (by decide) (by decide) (λ j d=>?_)).mono λ e w' ⟨g,f⟩=>⟨?_,f.symm⟩
 .rw[a] at d;rw[Nat.zero_add,h.cell j];have:j=0\/j=1\/j=2\/j=3\/j=4\/j=5\/j=6\/j=7:=by omega
  rcases this with rfl | rfl | rfl | rfl | rfl | rfl | rfl | rfl <;> rfl
 .rw[g,<- a,List.take_length];congr 2;rw[a6,Lib.containsS_iff,ba,List.mem_map];constructor
  .rintro ⟨l,c,e⟩;rw[<- e];exact c
  .intro c;exact⟨_,c,rfl⟩
theorem wS (s:ByteArray) (w:World) (H:s.size<=maxLen) (l:Sp w) :
  IE 84 #[a0 s] w (a2 (aV s.data.toList)):=by
 unfold maxLen at H;have C:=qh l;clear l;have c:s.data.toList.length=s.size:=rfl;by_cases h0:s=⟨#[]⟩
 .have d:=qh (Ac (s:=s.data.toList) (by rw[h0]));subst h0;go_enter Tryz.func84,Tryz.ntmps84;go_wp2_with fail;go_ret;exact⟨au (by rw[d.o]),Below.refl _ _⟩
 have A:0<s.size:=by
  rcases bi s.size with h | h
  .exact absurd (ByteArray.ext (Array.toList_inj.1 (bj (c.trans h)))) h0
  .exact h
 have J:s.toList.isEmpty=false:=by rw[a7];cases hh:s.data.toList with
  | nil=>rw[hh] at c;simp at c;omega
  | cons a r=>rfl
 have p:=qh (head_cons A);by_cases h1:16<s.size
 .have d:=qh (DC (s:=s.data.toList) h1);have b1:decide ((16:Int)<(s.size:Nat))=true:=by simp;omega
  clear h0 c h1;go_enter Tryz.func84,Tryz.ntmps84;go_wp2_with fail;go_ret;exact⟨au (by rw[d.o]),Below.refl _ _⟩
 have b1:decide ((16:Int)<(s.size:Nat))=false:=by simp;omega
 by_cases h2a:((s[0].toNat:Nat):Int)<97
 .have d:=qh (show aV s.data.toList=false by rw[p.o];exact yY (by unfold nN;simp;omega));have b2:decide (((s[0].toNat:Nat):Int)<97)=true:=by simpa using h2a
  clear h0 c h1 h2a;go_enter Tryz.func84,Tryz.ntmps84;go_wp2_with fail;go_ret;exact⟨au (by rw[d.o]),Below.refl _ _⟩
 have b2:decide (((s[0].toNat:Nat):Int)<97)=false:=by simpa using h2a
 by_cases h2b:122<((s[0].toNat:Nat):Int)
 .have d:=qh (show aV s.data.toList=false by rw[p.o];exact yY (by unfold nN;simp;omega));have b3:decide (122<((s[0].toNat:Nat):Int))=true:=by simpa using h2b
  clear h0 c h1 h2a b3;go_enter Tryz.func84,Tryz.ntmps84;go_wp2_with fail;go_ret;exact⟨au (by rw[d.o]),Below.refl _ _⟩
 have b3:decide (122<((s[0].toNat:Nat):Int))=false:=by simpa using h2b
 have t:nN s[0]=true:=by unfold nN;simp;omega
 obtain⟨r,j⟩:=af (bH.contains s.data.toList);have y:=qh j;have d:=qh (show r=false->aV s.data.toList=s.data.toList.all fC from λ e=>by
  rw[e] at j;rw[p.o] at j ⊢;exact DD (by rw[<- p.o];omega) t j)
 have I:s.size<=16:=by omega
 clear h0 c h1 t h2a b3 j;have G:True:=trivial;go_enter Tryz.func84,Tryz.ntmps84;go_wp2_with fail;refine (Qk w C.o).mono ?_;rintro e w1 ⟨rfl,g⟩;have f:IY w w1:=g▸(Below.refl _ w).alloc (a4 _) _;have B1:ah w1 w.heap.size 9 #[a0 ⟨#[97,110,100]⟩,a0 ⟨#[111,114]⟩,a0 ⟨#[110,111,116]⟩,a0 ⟨#[105,110]⟩,a0 ⟨#[104,97,115]⟩,a0 ⟨#[109,111,100]⟩,a0 ⟨#[116,114,117,101]⟩,a0 ⟨#[102,97,108,115,101]⟩]:=g▸ah.new w _ _;clear g;go_wp2_with fail;refine (Kr w.heap.size s w1 B1).mono ?_;rw[y.o];rintro e E ⟨rfl,rfl⟩;cases r;rotate_left
 .have n:=qh (Fa y.o);go_wp2_with fail;go_ret;exact⟨au (by rw[n.o]),f⟩
 go_wp2_with fail
 go_loop [28,3] (λ i u=>∃ k:Nat,k<=s.size/\i = aM aR k/\Hid ((s.data.toList.take k).all fC=true)) (λ i _=>s.size - (intOf i).toNat)
 case atStart=>exact⟨0,a9 _,rfl,qh rfl⟩
 case round =>
  obtain⟨k,K,rfl,v⟩:=hrel;by_cases hlt:k<s.size
  .obtain⟨b,o⟩:=af (fC s[k]);have B:=qh o;have z:=qh ((Ns hlt v.o).trans o);have q:=qh hlt;have HW:=qh (show Calls Tryz.prog 132 #[.int .u8 (s[k].toNat:Nat)] w1 λ e m=>e = a3 (a2 b)/\w1=m from by
    exact (Kq s[k] w1).mono λ e m ⟨D,F⟩=>⟨D.trans (congrArg (λ x=>bk (a2 x)) o),F⟩)
   clear o;go_wp2_with fail;refine HW.o.mono ?_;rintro e E ⟨rfl,rfl⟩;cases b
   .have n:=qh (SI q.o B.o);go_wp2_with fail;go_ret;exact⟨au (by rw[d.o (by first | rfl | trivial),n.o]),f⟩
   .go_wp2_with fail
    go_round
    case rel=>exact⟨k+1,q.o,by go_num,z⟩
    case measure =>
     have:=q.o;simp[intOf];omega
  .have n:=qh (show s.data.toList.all fC=true by
    have h:=v.o
    rwa [bl (by show s.size<=k;omega)] at h)
   go_wp2_with fail;go_ret;exact⟨au (by rw[d.o (by first | rfl | trivial),n.o]),f⟩
theorem uj (x:Val) (A:Option Addr) (c:Nat) (w:World) :
  IE 292 #[.agg (BO x A c)] w (a2 (jW x)):=by
 go_enter Tryz.func292,Tryz.ntmps292;go_wp2
 all_goals (go_ret;exact⟨au (by simp_all[jW];try (rw[a6];simp[bm])),(Below.refl _ _).alloc (a4 _) _⟩)
theorem Xe (x:Val) (A:Option Addr) (c:Nat) (w:World) :
  IE 184 #[.agg (BO x A c)] w (a2 (jW x)):=by
 go_enter Tryz.func184,Tryz.ntmps184;go_wp2
 all_goals (go_ret;exact⟨au (by simp_all[jW];try (rw[a6];simp[bm])),(Below.refl _ _).alloc (a4 _) _⟩)
theorem Ql {a:Int} (h:a≠2/\a≠3/\a≠24/\a≠25/\a≠26/\a≠1/\a≠12/\a≠13/\a≠14/\a≠20/\a≠21/\a≠22/\a≠23/\a≠28/\a≠29/\a≠30/\a≠34/\a≠35/\a≠36):gV a=if aN a 1 39=true then (0,0) else (2,2):=by
 obtain⟨s,t,n,m,o,u,i,b,p,c,g,e,l,q,k,j,r,d,f⟩:=h;unfold gV;rw[if_neg (by omega),if_neg (by omega),if_neg (by omega)];by_cases h0:1<=a/\a<=39
 .rw[if_pos h0,lT h0.1 h0.2];rfl
 .rw[if_neg h0,mD (by omega)];rfl
def arV (op:Int):Value:=.tuple #[aM aR ((gV op).1:Nat),aM aR ((gV op).2:Nat)]
theorem Jj (a:Int) (w:World) :
  KG 293 #[aM aR a] w (arV a):=by
 by_cases h:a=2\/a=3\/a=24\/a=25\/a=26\/a=1\/a=12\/a=13\/a=14\/a=20\/a=21\/a=22\/a=23\/a=28\/a=29\/a=30\/a=34\/a=35\/a=36
 .rcases h with rfl | rfl | rfl | rfl | rfl | rfl | rfl | rfl | rfl | rfl | rfl | rfl | rfl | rfl | rfl | rfl | rfl | rfl | rfl
  all_goals
   go_enter Tryz.func293,Tryz.ntmps293;go_wp2;go_ret2;exact⟨rfl,rfl⟩
 .have c:a≠2/\a≠3/\a≠24/\a≠25/\a≠26/\a≠1/\a≠12/\a≠13/\a≠14/\a≠20/\a≠21/\a≠22/\a≠23/\a≠28/\a≠29/\a≠30/\a≠34/\a≠35/\a≠36:=by omega
  have d:=qh (Ql c);have b2:(a == 2)=false:=by rw[beq_eq_false_iff_ne];omega
  have b3:(a == 3)=false:=by rw[beq_eq_false_iff_ne];omega
  have g:(a == 24)=false:=by rw[beq_eq_false_iff_ne];omega
  have n:(a == 25)=false:=by rw[beq_eq_false_iff_ne];omega
  have x:(a == 26)=false:=by rw[beq_eq_false_iff_ne];omega
  have b1:(a == 1)=false:=by rw[beq_eq_false_iff_ne];omega
  have y:(a == 12)=false:=by rw[beq_eq_false_iff_ne];omega
  have r:(a == 13)=false:=by rw[beq_eq_false_iff_ne];omega
  have p:(a == 14)=false:=by rw[beq_eq_false_iff_ne];omega
  have s:(a == 20)=false:=by rw[beq_eq_false_iff_ne];omega
  have j:(a == 21)=false:=by rw[beq_eq_false_iff_ne];omega
  have t:(a == 22)=false:=by rw[beq_eq_false_iff_ne];omega
  have m:(a == 23)=false:=by rw[beq_eq_false_iff_ne];omega
  have l:(a == 28)=false:=by rw[beq_eq_false_iff_ne];omega
  have q:(a == 29)=false:=by rw[beq_eq_false_iff_ne];omega
  have i:(a == 30)=false:=by rw[beq_eq_false_iff_ne];omega
  have v:(a == 34)=false:=by rw[beq_eq_false_iff_ne];omega
  have k:(a == 35)=false:=by rw[beq_eq_false_iff_ne];omega
  have u:(a == 36)=false:=by rw[beq_eq_false_iff_ne];omega
  obtain⟨o,f⟩:=af (aN a 1 39);have b:=qh f;clear h c f;go_enter Tryz.func293,Tryz.ntmps293;go_wp2_with fail;refine (aX a 1 39 w).mono ?_;rw[b.o];rintro e z ⟨rfl,rfl⟩;cases o
  .go_wp2;go_ret2;exact⟨bP (by unfold arV;rw[d.o,b.o];rfl),rfl⟩
  .go_wp2;go_ret2;exact⟨bP (by unfold arV;rw[d.o,b.o];rfl),rfl⟩
theorem abb (a:Int) (nm:ByteArray) (v:Val) (n:Nat) (A:Option Addr) (c:Nat) (A':Option Addr) (c':Nat) (w:World) (b:n<=maxLen) :
  IE 272 #[.agg (BK 1 a nm v A c A' n c')] w (a2 (dH 1 a nm v n)):=by
 unfold maxLen at b;go_enter Tryz.func272,Tryz.ntmps272;go_wp2
 all_goals (go_ret;exact⟨au (by simp_all[dH,bd]),(Below.refl _ _).alloc (a4 _) _⟩)
theorem abd (d:Int) (nm:ByteArray) (v:Val) (n:Nat) (A:Option Addr) (c:Nat) (A':Option Addr) (c':Nat) (w:World) (j:n<=maxLen) :
  IE 272 #[.agg (BK 2 d nm v A c A' n c')] w (a2 (dH 2 d nm v n)):=by
 unfold maxLen at j;obtain⟨z,g⟩:=af (jW v);have h:=qh g;clear g;go_enter Tryz.func272,Tryz.ntmps272;go_wp2_with fail;obtain⟨W,f⟩:=aC ((w.alloc (.cells (BK 2 d nm v A c A' n c') 67 (0,0))));have a:IY w W:=by rw[f];exact ((Below.refl _ w).alloc (a4 _) _)
 have B0:ah W (w.heap.size) 67 (BK 2 d nm v A c A' n c'):=by
  rw[f];have:=ah.new w 67 (BK 2 d nm v A c A' n c');exact this
 have i:W.heap.size=w.heap.size+1:=by rw[f];simp
 rw[<- f];clear f i;refine (uj v A c W).mono ?_;rw[h.o];rintro e k ⟨rfl,b⟩;have B0:=B0.below b B0.lt;have a:=a.trans (b.mono a.size);clear b;obtain⟨p,q,l,t,m,s,r,o⟩:=ah.c8 B0;cases z
 .go_wp2;go_ret;exact⟨au (by unfold dH;rw[h.o];simp),a⟩
 .go_wp2
  all_goals (go_ret;exact⟨au (by have g:=h.o;simp_all[dH,bd]),a⟩)
theorem abe (d:Int) (nm:ByteArray) (v:Val) (n:Nat) (A:Option Addr) (c:Nat) (A':Option Addr) (c':Nat) (w:World) (j:n<=maxLen) :
  IE 272 #[.agg (BK 3 d nm v A c A' n c')] w (a2 (dH 3 d nm v n)):=by
 unfold maxLen at j;obtain⟨z,g⟩:=af (jW v);have h:=qh g;clear g;go_enter Tryz.func272,Tryz.ntmps272;go_wp2_with fail;obtain⟨W,f⟩:=aC ((w.alloc (.cells (BK 3 d nm v A c A' n c') 67 (0,0))));have a:IY w W:=by rw[f];exact ((Below.refl _ w).alloc (a4 _) _)
 have B0:ah W (w.heap.size) 67 (BK 3 d nm v A c A' n c'):=by
  rw[f];have:=ah.new w 67 (BK 3 d nm v A c A' n c');exact this
 have i:W.heap.size=w.heap.size+1:=by rw[f];simp
 rw[<- f];clear f i;refine (uj v A c W).mono ?_;rw[h.o];rintro e k ⟨rfl,b⟩;have B0:=B0.below b B0.lt;have a:=a.trans (b.mono a.size);clear b;obtain⟨p,q,l,t,m,s,r,o⟩:=ah.c8 B0;cases z
 .go_wp2;go_ret;exact⟨au (by unfold dH;rw[h.o];simp),a⟩
 .go_wp2
  all_goals (go_ret;exact⟨au (by have g:=h.o;simp_all[dH,bd]),a⟩)
theorem abf (d:Int) (nm:ByteArray) (v:Val) (n:Nat) (A:Option Addr) (c:Nat) (A':Option Addr) (c':Nat) (w:World) (y:n<=maxLen) :
  IE 272 #[.agg (BK 4 d nm v A c A' n c')] w (a2 (dH 4 d nm v n)):=by
 unfold maxLen at y;obtain⟨z,s⟩:=af (jW v);have l:=qh s;clear s;go_enter Tryz.func272,Tryz.ntmps272;go_wp2_with fail;obtain⟨W,j⟩:=aC ((w.alloc (.cells (BK 4 d nm v A c A' n c') 67 (0,0))));have b:IY w W:=by rw[j];exact ((Below.refl _ w).alloc (a4 _) _)
 have B0:ah W (w.heap.size) 67 (BK 4 d nm v A c A' n c'):=by
  rw[j];have:=ah.new w 67 (BK 4 d nm v A c A' n c');exact this
 have m:W.heap.size=w.heap.size+1:=by rw[j];simp
 rw[<- j];clear j m;refine (uj v A c W).mono ?_;rw[l.o];rintro e o ⟨rfl,g⟩;have B0:=B0.below g B0.lt;have b:=b.trans (g.mono b.size);clear g;obtain⟨G,H,D,K,E,J,I,F⟩:=ah.c8 B0;cases z
 .go_wp2;go_ret;exact⟨au (by unfold dH;rw[l.o];simp),b⟩
 .by_cases hnm:nm.toList = [];rotate_left
  .have C:=qh hnm;have u:nm.toList.isEmpty=false:=by cases h:nm.toList with
    | nil=>exact absurd h hnm
    | cons a r=>rfl
   clear hnm;go_wp2;go_ret;exact⟨au (by unfold dH;rw[if_pos (.inr (.inr ⟨by omega,C.o⟩))]),b⟩
  have u:nm.toList.isEmpty=true:=by rw[hnm];rfl
  have B:=qh (show dH 4 d nm v n=aN n ((gV d).1:Nat) ((gV d).2:Nat) by
   unfold dH;rw[if_neg (by rw[l.o];simp[hnm]),if_neg (by omega)];simp[aN])
  obtain⟨q,f⟩:=af ((gV d).1);obtain⟨t,i⟩:=af ((gV d).2);have p:=qh (a5 f i);have k:=qh (show arV d = .tuple #[aM aR (q:Nat),aM aR (t:Nat)] by unfold arV;rw[f,i]);clear hnm f i;go_wp2_with fail;refine (Jj d o).mono ?_;rw[k.o];rintro e x ⟨rfl,rfl⟩;go_wp2_with fail;refine (aX n q t o).mono ?_;rintro e x ⟨rfl,rfl⟩;go_wp2;go_ret;exact⟨au (by rw[B.o,p.o.1,p.o.2]),b⟩
theorem abg (d:Int) (nm:ByteArray) (v:Val) (n:Nat) (A:Option Addr) (c:Nat) (A':Option Addr) (c':Nat) (w:World) (j:n<=maxLen) :
  IE 272 #[.agg (BK 5 d nm v A c A' n c')] w (a2 (dH 5 d nm v n)):=by
 unfold maxLen at j;obtain⟨z,g⟩:=af (jW v);have h:=qh g;clear g;go_enter Tryz.func272,Tryz.ntmps272;go_wp2_with fail;obtain⟨W,f⟩:=aC ((w.alloc (.cells (BK 5 d nm v A c A' n c') 67 (0,0))));have a:IY w W:=by rw[f];exact ((Below.refl _ w).alloc (a4 _) _)
 have B0:ah W (w.heap.size) 67 (BK 5 d nm v A c A' n c'):=by
  rw[f];have:=ah.new w 67 (BK 5 d nm v A c A' n c');exact this
 have i:W.heap.size=w.heap.size+1:=by rw[f];simp
 rw[<- f];clear f i;refine (uj v A c W).mono ?_;rw[h.o];rintro e k ⟨rfl,b⟩;have B0:=B0.below b B0.lt;have a:=a.trans (b.mono a.size);clear b;obtain⟨p,q,l,t,m,s,r,o⟩:=ah.c8 B0;cases z
 .go_wp2;go_ret;exact⟨au (by unfold dH;rw[h.o];simp),a⟩
 .go_wp2
  all_goals (go_ret;exact⟨au (by have g:=h.o;unfold dH;rw[g];simp;try (rw[a6];simp;omega)),a⟩)
theorem Uo (k a:Int) (nm:ByteArray) (v:Val) (n:Nat) (A:Option Addr) (c:Nat) (A':Option Addr) (c':Nat) (w:World) (b:n<=maxLen) (d:1<=k) (f:k<=5) :
  IE 272 #[.agg (BK k a nm v A c A' n c')] w (a2 (dH k a nm v n)):=by
 obtain rfl | rfl | rfl | rfl | rfl:k=1\/k=2\/k=3\/k=4\/k=5:=by omega
 .exact abb a nm v n A c A' c' w b
 .exact abd a nm v n A c A' c' w b
 .exact abe a nm v n A c A' c' w b
 .exact abf a nm v n A c A' c' w b
 .exact abg a nm v n A c A' c' w b
def eU (op:Int):List Int:=
 if op=1\/op=2\/op=3 then [7] else
 if op=4\/op=5\/op=27 then [-1,-1] else
 if op=6\/op=7\/op=8\/op=9 then [-2,-2] else
 if op=10 then [4,5] else
 if op=11 then [5,4] else
 if op=12\/op=13\/op=14 then [-1] else
 if op=15\/op=16\/op=17\/op=18\/op=19 then [2,2] else
 if op=20\/op=21\/op=22\/op=23 then [2] else
 if op=24\/op=25 then [-2] else
 if op=26 then [7,-1,-1] else
 if op=28 then [-3] else
 if op=29 then [4] else
 if op=30 then [3] else
 if op=31\/op=32\/op=33 then [3,3] else
 if op=34\/op=35\/op=36 then [6] else
 if op=37\/op=38 then [6,6] else [6,2]
def vG (op:Int):Int:=
 if op=1\/op=2\/op=3\/op=4\/op=5\/op=6\/op=7\/op=8\/op=9\/op=10\/op=11\/op=12\/op=13\/op=32\/op=33 then 7 else if op=14\/op=15\/op=16\/op=17\/op=18\/op=19\/op=20\/op=21\/op=22\/op=23\/op=28\/op=29\/op=34\/op=35\/op=36\/op=37\/op=38 then 2 else if op=24\/op=25 then -2 else if op=26\/op=27 then -1 else if op=30\/op=31 then 3 else 6
def qm (op:Int):Bool:=decide (op=2\/op=3\/op=24\/op=25)
theorem Fb (w:World) (o:Obj) (t:TypeId) (cs:Array Value):ah ((w.alloc o).alloc (.cells cs t)) (w.heap.size+1) t cs:=by
 have:=ah.new (w.alloc o) t cs
 rwa [World.size_alloc] at this
structure ShR (e:Ending) (w w':World) (op:Int):Prop where
 he:e = a3 (.agg #[a1 (some ⟨w.heap.size+1,0,none⟩) (eU op).length (eU op).length,aM aR (vG op),a2 (qm op)])
 hB:ah w' (w.heap.size+1) 3 (bI aR (eU op)).toArray
 hb:IY w w'
theorem Xf (op:Int) (w:World) (h:op=1\/op=2\/op=3\/op=4\/op=5\/op=6\/op=7\/op=8\/op=9\/op=10\/op=11\/op=12\/op=13):Calls Tryz.prog 134 #[aM aR op] w λ e w'=>ShR e w w' op:=by
 rcases h with h | h | h | h | h | h | h | h | h | h | h | h | h
 all_goals
  have H:=qh h;go_enter Tryz.func134,Tryz.ntmps134;go_wp2;refine bodyPost_ret (v:=.agg #[a1 (some ⟨w.heap.size+1,0,none⟩) (eU op).length (eU op).length,aM aR (vG op),a2 (qm op)]) (by rw[H.o];simp[results,Tryz.results134,go_sem,eU,vG,qm]) rfl ⟨rfl,?_,((Below.refl _ _).alloc (a4 _) _).alloc (by simp) _⟩;rw[H.o];exact Fb w _ 3 _
theorem Xg (op:Int) (w:World) (h:op=14\/op=15\/op=16\/op=17\/op=18\/op=19\/op=20\/op=21\/op=22\/op=23\/op=24\/op=25\/op=26):Calls Tryz.prog 134 #[aM aR op] w λ e w'=>ShR e w w' op:=by
 rcases h with h | h | h | h | h | h | h | h | h | h | h | h | h
 all_goals
  have H:=qh h;go_enter Tryz.func134,Tryz.ntmps134;go_wp2;refine bodyPost_ret (v:=.agg #[a1 (some ⟨w.heap.size+1,0,none⟩) (eU op).length (eU op).length,aM aR (vG op),a2 (qm op)]) (by rw[H.o];simp[results,Tryz.results134,go_sem,eU,vG,qm]) rfl ⟨rfl,?_,((Below.refl _ _).alloc (a4 _) _).alloc (by simp) _⟩;rw[H.o];exact Fb w _ 3 _
theorem Xh (op:Int) (w:World) (h:op=27\/op=28\/op=29\/op=30\/op=31\/op=32\/op=33\/op=34\/op=35\/op=36\/op=37\/op=38\/op=39):Calls Tryz.prog 134 #[aM aR op] w λ e w'=>ShR e w w' op:=by
 rcases h with h | h | h | h | h | h | h | h | h | h | h | h | h
 all_goals
  have H:=qh h;go_enter Tryz.func134,Tryz.ntmps134;go_wp2;refine bodyPost_ret (v:=.agg #[a1 (some ⟨w.heap.size+1,0,none⟩) (eU op).length (eU op).length,aM aR (vG op),a2 (qm op)]) (by rw[H.o];simp[results,Tryz.results134,go_sem,eU,vG,qm]) rfl ⟨rfl,?_,((Below.refl _ _).alloc (a4 _) _).alloc (by simp) _⟩;rw[H.o];exact Fb w _ 3 _
theorem DF (op:Int) (w:World) (a:1<=op) (b:op<=39):Calls Tryz.prog 134 #[aM aR op] w λ e w'=>ShR e w w' op:=by
 rcases (by omega:op<=13\/(14<=op/\op<=26)\/27<=op) with h | h | h
 .exact Xf op w (by omega)
 .exact Xg op w (by omega)
 .exact Xh op w (by omega)
def Kt (op:Int) (n:Nat):Bool:=if qm op then decide (2<=n) else decide (n=(eU op).length)
theorem adQ (a:Int) (n:Nat) (b:1<=a) (c:a<=39) (d:n<=1099511627776):Kt a n=!aN n ((gV a).1:Nat) ((gV a).2:Nat):=by
 obtain rfl | rfl | rfl | rfl | rfl | rfl | rfl | rfl | rfl | rfl | rfl | rfl | rfl | rfl | rfl | rfl | rfl | rfl | rfl | rfl | rfl | rfl | rfl | rfl | rfl | rfl | rfl | rfl | rfl | rfl | rfl | rfl | rfl | rfl | rfl | rfl | rfl | rfl | rfl:a=1\/a=2\/a=3\/a=4\/a=5\/a=6\/a=7\/a=8\/a=9\/a=10\/a=11\/a=12\/a=13\/a=14\/a=15\/a=16\/a=17\/a=18\/a=19\/a=20\/a=21\/a=22\/a=23\/a=24\/a=25\/a=26\/a=27\/a=28\/a=29\/a=30\/a=31\/a=32\/a=33\/a=34\/a=35\/a=36\/a=37\/a=38\/a=39:=by omega
 all_goals
  simp only[Kt,qm,eU,gV,aN];rw[a6];simp
  try omega
theorem Qm (a:Int) (n:Nat) (w:World) (o:1<=a) (k:a<=39) (p:n<=maxLen) :
  IE 185 #[aM aR a,aM aR n] w (a2 (Kt a n)):=by
 have d:(eU a).length<=3:=by
  obtain rfl | rfl | rfl | rfl | rfl | rfl | rfl | rfl | rfl | rfl | rfl | rfl | rfl | rfl | rfl | rfl | rfl | rfl | rfl | rfl | rfl | rfl | rfl | rfl | rfl | rfl | rfl | rfl | rfl | rfl | rfl | rfl | rfl | rfl | rfl | rfl | rfl | rfl | rfl:a=1\/a=2\/a=3\/a=4\/a=5\/a=6\/a=7\/a=8\/a=9\/a=10\/a=11\/a=12\/a=13\/a=14\/a=15\/a=16\/a=17\/a=18\/a=19\/a=20\/a=21\/a=22\/a=23\/a=24\/a=25\/a=26\/a=27\/a=28\/a=29\/a=30\/a=31\/a=32\/a=33\/a=34\/a=35\/a=36\/a=37\/a=38\/a=39:=by omega
  all_goals decide
 obtain⟨m,i⟩:=af (qm a);obtain⟨L,c⟩:=af ((eU a).length);have f:=qh i;have h:=qh c;rw[c] at d;have j:=qh (λ w'=>DF a w' o k);unfold maxLen at p;clear i c;go_enter Tryz.func185,Tryz.ntmps185;go_wp2_with fail;refine (j.o w).mono ?_;rintro e q ⟨rfl,l,b⟩;rw[h.o,f.o];clear l;cases m
 .have g:=qh (show Kt a n=decide (n=L) by unfold Kt;rw[f.o,h.o];rfl);go_wp2;go_ret;exact⟨au (by rw[g.o,a6];simp;try omega),b.alloc b.size _⟩
 .have g:=qh (show Kt a n=decide (2<=n) by unfold Kt;rw[f.o];rfl);go_wp2;go_ret;exact⟨au (by rw[g.o,a6];simp;try omega),b.alloc b.size _⟩
theorem BZ {a b:Int} (h:(a != b)=false):a=b:=by simpa using h
theorem SL {a:Int} {nm:ByteArray} {v:Val} {n:Nat} (b:12<=a/\a<=14) (h:dH 4 a nm v n=false):n=1:=by
 have e:gV a=(1,1):=by rcases (by omega:a=12\/a=13\/a=14) with rfl | rfl | rfl <;> rfl
 unfold dH at h;rw[e] at h;split at h
 .cases h
 .simp at h;omega
theorem IB (k b:Int) (nm:ByteArray) (v:Val) (n:Nat) (s:Int) (A:Option Addr) (c:Nat) (A':Option Addr) (c' B:Nat) (w:World) (l:nm.size<=maxLen) (j:v.s.size<=maxLen) (p:v.l.length<=maxLen) (hn:n<=maxLen)
  (f:Reads w B 1 A v.l.length (bI aR v.l)) (hB:B<=w.heap.size) (hA:0<n->∃ ad,A'=some ad/\ad.block<B/\w.cell? ad=some (aM aR s)) :
  IE 257 #[.agg (BK k b nm v A c A' n c')] w (aM aR (yI k b nm v n s)):=by
 obtain⟨W,r⟩:=aC (w.alloc (.cells (BK k b nm v A c A' n c') 67 (0,0)));have m:IY w W:=r▸(Below.refl _ w).alloc (a4 _) _;have P:ah W w.heap.size 67 (BK k b nm v A c A' n c'):=r▸ah.new w _ _;have O:=qh (show ∀ a,IY W a->a.cell? ⟨w.heap.size,0,none⟩=some (aM aR k)/\a.cell? ⟨w.heap.size,1,none⟩=some (aM aR b)/\a.cell? ⟨w.heap.size,2,none⟩=some (a0 nm)/\a.cell? ⟨w.heap.size,3,none⟩=some (aM aR v.k)/\a.cell? ⟨w.heap.size,4,none⟩=some (aM aR v.n)/\a.cell? ⟨w.heap.size,5,none⟩=some (a0 v.s)/\a.cell? ⟨w.heap.size,6,none⟩=some (a1 A v.l.length c)/\a.cell? ⟨w.heap.size,7,none⟩=some (a1 A' n c') from λ a g=>by
  have B:=P.below g P.lt;exact⟨B.cell 0,B.cell 1,B.cell 2,B.cell 3,B.cell 4,B.cell 5,B.cell 6,B.cell 7⟩)
 have d:=qh (Below.refl W.heap.size W);have HW:=qh m;have t:=qh (a5 f (a5 hB hA));have u:=qh (a5 l (a5 j (a5 p hn)));clear P m f hB hA l j p hn;rcases ((Classical.em (aN k 1 5=true)).elim .inl (λ h=>.inr (by simp[aN] at h;omega)):aN k 1 5=true\/k=1\/k=2\/k=3\/k=4\/k=5) with i | rfl | rfl | rfl | rfl | rfl;rotate_left;have i:aN 1 1 5=false:=by decide
 cases f:dH 1 b nm v n;cases z0:(v.k == 0);cases z1:(v.k == 1);rotate_left 4;have i:aN 2 1 5=false:=by decide
 cases f:dH 2 b nm v n;cases g:aV nm.data.toList;rotate_left 3;have i:aN 3 1 5=false:=by decide
 cases f:dH 3 b nm v n;cases g:aV nm.data.toList;rotate_left 3;have i:aN 4 1 5=false:=by decide
 cases h4:aN b 1 39;cases f:dH 4 b nm v n;by_cases ha:12<=b/\b<=14;obtain rfl:=SL ha f;obtain⟨ad,rfl,ab,q⟩:=t.o.2.2 (by decide);have E:=qh (show ∀ a,IY W a->a.cell? ad=some (aM aR s) from λ a g=>Below.cell_of (HW.o.trans (g.mono HW.o.size)) q);have q:=E.o _ d.o;have qq:aN b 12 14=false:=lT ha.1 ha.2;cases hk2:(s != 2);rotate_left 2;have qq:aN b 12 14=true:=by simp[aN];omega
 have aa:(b == 12)=false:=beq_eq_false_iff_ne.2 (by omega);have ak:(b == 13)=false:=beq_eq_false_iff_ne.2 (by omega);have ao:(b == 14)=false:=beq_eq_false_iff_ne.2 (by omega);rotate_left 3;have i:aN 5 1 5=false:=by decide
 cases h5:aN b 1 6;cases f:dH 5 b nm v n;cases g:aV nm.data.toList
 all_goals
  try have S:=qh i
  try have y:=qh f
  try have V:=qh h4
  try have J:=qh h5
  try have N:=qh g
  try have D:=qh z0
  try have R:=qh z1
  try have Xi:=qh hk2
  try have I:=qh zz
  try have Q:=qh o0
  try have z:=qh n0
  try have L:=qh ne
  try have T:=qh n1
  try have K:=qh ra
  try have M:=qh qq
  obtain⟨r0,r1,r2,Y,r4,r5,X,Z⟩:=O.o _ d.o;go_enter Tryz.func257,Tryz.ntmps257;go_upto_region 1 with (fail);rw[<- r];clear r;go_wp2_with (first | (go_at_call 121;(refine (aX _ _ _ _).mono ?_);rintro _ U ⟨rfl,rfl⟩) | (go_at_call 272;(refine (Uo _ b nm v _ A c _ c' _ u.o.2.2.2 (by decide) (by decide)).mono ?_);rintro _ U ⟨rfl,o⟩;have d:=qh (d.o.trans (o.mono d.o.size));obtain⟨r0,r1,r2,Y,r4,r5,X,Z⟩:=O.o _ d.o;clear o;try have q:=E.o _ d.o) | (go_at_call 124;(refine (check_any v A c B _ u.o.2.2.1 u.o.2.1 (t.o.1.below ((HW.o.trans (d.o.mono HW.o.size)).mono t.o.2.1)) (a8 t.o.2.1 (HW.o.trans (d.o.mono HW.o.size)).size)).mono ?_);rintro _ U ⟨rfl,o⟩;have d:=qh (d.o.trans (o.mono d.o.size));obtain⟨r0,r1,r2,Y,r4,r5,X,Z⟩:=O.o _ d.o;clear o;try have q:=E.o _ d.o) | (go_at_call 23;(refine (lU nm _ u.o.1).mono ?_);rintro _ U ⟨rfl,rfl⟩))
  all_goals
   go_ret
   try have x:=S.o
   try have C:=y.o
   try have H:=V.o
   try have G:=J.o
   try have F:=N.o
   try have Xj:=D.o
   try have Xk:=R.o
   try have Nu:=Xi.o
   try have an:=I.o
   try have ae:=Q.o
   try have aq:=z.o
   try have ap:=L.o
   try have al:=T.o
   try have am:=K.o
   try have ac:=M.o
   exact⟨ag (by unfold yI;(try simp only[x]);(try simp only[H]);(try simp only[G]);(try simp only[C]);(try simp only[F]);(try have y0:=beq_iff_eq.1 Xj);(try have y0:=beq_eq_false_iff_ne.1 Xj);(try have y1:=beq_iff_eq.1 Xk);(try have y1:=beq_eq_false_iff_ne.1 Xk);(try have y2:=bne_iff_ne.1 Nu);(try have y2:=BZ Nu);first | (simp[*];done) | (simp[*];omega)),HW.o.trans (d.o.mono HW.o.size)⟩
theorem Xl (n:Nat):(¬ 0<n/\¬ 0<(n:Int))\/(0<n/\0<(n:Int)):=by omega
theorem agH {α:Type} {l:List α} (h:l.isEmpty=false):l≠[]:=by rintro rfl;cases h
theorem Xm {a:Int} (h:aN a 1 39=false):1<=a/\a<=39:=by simp[aN] at h;omega
theorem agI {n:Nat} (h:((n:Int) != 1)=false):n=1:=by simp at h;omega
theorem agJ {n:Nat} (h:((n:Int) != 1)=true):n≠1:=by simp at h;omega
theorem X4 {a:Int} {nm:ByteArray} {v:Val} {n:Nat} (g:aN a 1 39=false) (f:nm.toList.isEmpty=true) (e:jW v=true) (b:n<=1099511627776):dH 4 a nm v n=!Kt a n:=by
 obtain⟨c,d⟩:=Xm g;rw[adQ a n c d b];unfold dH;rw[if_neg (by simp[e,bn.1 f]),if_neg (by omega)];rw[a6];simp[aN] <;> omega
theorem Ku (k d:Int) (nm:ByteArray) (v:Val) (n:Nat) (N:Int) (A:Option Addr) (c:Nat) (A':Option Addr) (c' B:Nat) (w:World) (t:nm.size<=maxLen) (r:v.s.size<=maxLen) (D:v.l.length<=maxLen) (hn:n<=maxLen)
  (F:Reads w B 1 A v.l.length (bI aR v.l)) (hB:B<=w.heap.size) (hA:0<n->∃ ad,A'=some ad/\ad.block<B/\w.cell? ad=some (aM aR N)) (E:Sp w) (p:n<=1099511627776) :
  IE 130 #[.agg (BK k d nm v A c A' n c')] w (aM aR (yI k d nm v n N)):=by
 obtain⟨W,M⟩:=aC (w.alloc (.cells (BK k d nm v A c A' n c') 67 (0,0)));have x:IY w W:=M▸(Below.refl _ w).alloc (a4 _) _;have BW:ah W w.heap.size 67 (BK k d nm v A c A' n c'):=M▸ah.new w _ _;have z:=qh (show ∀ a,IY W a->a.cell? ⟨w.heap.size,0,none⟩=some (aM aR k)/\a.cell? ⟨w.heap.size,1,none⟩=some (aM aR d)/\a.cell? ⟨w.heap.size,2,none⟩=some (a0 nm)/\a.cell? ⟨w.heap.size,3,none⟩=some (aM aR v.k)/\a.cell? ⟨w.heap.size,4,none⟩=some (aM aR v.n)/\a.cell? ⟨w.heap.size,5,none⟩=some (a0 v.s)/\a.cell? ⟨w.heap.size,6,none⟩=some (a1 A v.l.length c)/\a.cell? ⟨w.heap.size,7,none⟩=some (a1 A' n c') from λ a g=>by
  have B:=BW.below g BW.lt;exact⟨B.cell 0,B.cell 1,B.cell 2,B.cell 3,B.cell 4,B.cell 5,B.cell 6,B.cell 7⟩)
 have b:=qh (Below.refl W.heap.size W);have HW:=qh x;have P:=qh (a5 F (a5 hB hA));have Q:=qh (a5 t (a5 r (a5 D hn)));have HS:=qh (a5 E p);clear E p;clear BW x F hB hA t r D hn;rcases ((Classical.em (aN k 1 5=true)).elim .inl (λ h=>.inr (by simp[aN] at h;omega)):aN k 1 5=true\/k=1\/k=2\/k=3\/k=4\/k=5) with j | rfl | rfl | rfl | rfl | rfl;rotate_left;have j:aN 1 1 5=false:=by decide
 cases o0:(d != 0);rcases Xl n with ⟨l,u⟩ | ⟨l,u⟩;cases ne:nm.toList.isEmpty;rotate_left;cases z0:(v.k == 0);cases z1:(v.k == 1);rotate_left 5;have j:aN 2 1 5=false:=by decide
 cases o0:(d != 0);rcases Xl n with ⟨l,u⟩ | ⟨l,u⟩;cases zz:jW v;rotate_left;cases g:aV nm.data.toList;rotate_left 4;have j:aN 3 1 5=false:=by decide
 cases o0:(d != 0);rcases Xl n with ⟨l,u⟩ | ⟨l,u⟩;cases zz:jW v;rotate_left;cases g:aV nm.data.toList;rotate_left 4;have j:aN 4 1 5=false:=by decide
 cases h4:aN d 1 39;cases ne:nm.toList.isEmpty;rotate_left;cases zz:jW v;rotate_left;have R4:=qh (Xm h4);cases ra:Kt d n;rotate_left;have F:dH 4 d nm v n=false:=by rw[X4 h4 ne zz HS.o.2,ra];rfl
 by_cases ha:12<=d/\d<=14;obtain rfl:=SL ha F;obtain⟨ad,rfl,ax,m⟩:=P.o.2.2 (by decide);have o:=qh (show ∀ a,IY W a->a.cell? ad=some (aM aR N) from λ a g=>Below.cell_of (HW.o.trans (g.mono HW.o.size)) m);have m:=o.o _ b.o;have qq:aN d 12 14=false:=lT ha.1 ha.2;cases hk2:(N != 2);rotate_left 2;have qq:aN d 12 14=true:=by simp[aN];omega
 have aw:(d == 12)=false:=beq_eq_false_iff_ne.2 (by omega);have aD:(d == 13)=false:=beq_eq_false_iff_ne.2 (by omega);have aE:(d == 14)=false:=beq_eq_false_iff_ne.2 (by omega);rotate_left 2;have j:aN 5 1 5=false:=by decide
 cases h5:aN d 1 6;cases zz:jW v;rotate_left;cases n1:((n:Int) != 1);cases g:aV nm.data.toList
 all_goals
  try have aq:=qh j
  try have U:=qh F
  try have av:=qh h4
  try have ac:=qh h5
  try have am:=qh g
  try have Y:=qh z0
  try have ap:=qh z1
  try have Xi:=qh hk2
  try have ab:=qh zz
  try have ao:=qh o0
  try have V:=qh l
  try have ak:=qh ne
  try have ar:=qh n1
  try have ae:=qh ra
  try have al:=qh qq
  obtain⟨J,O,S,H,K,L,G,I⟩:=z.o _ b.o;go_enter Tryz.func130,Tryz.ntmps130;go_upto_region 1 with (fail);rw[<- M];clear M;go_wp2_with (first | (go_at_call 86;(refine (gU _ _ _ _).mono ?_);rintro _ R ⟨rfl,rfl⟩) | (go_at_call 184;(refine (Xe v A c _).mono ?_);rintro _ R ⟨rfl,f⟩;have b:=qh (b.o.trans (f.mono b.o.size));obtain⟨J,O,S,H,K,L,G,I⟩:=z.o _ b.o;clear f;try have m:=o.o _ b.o) | (go_at_call 185;(refine (Qm d _ _ R4.o.1 R4.o.2 Q.o.2.2.2).mono ?_);rintro _ R ⟨rfl,f⟩;have b:=qh (b.o.trans (f.mono b.o.size));obtain⟨J,O,S,H,K,L,G,I⟩:=z.o _ b.o;clear f;try have m:=o.o _ b.o) | (go_at_call 186;(refine (Qj v A c B _ Q.o.2.2.1 Q.o.2.1 (P.o.1.below ((HW.o.trans (b.o.mono HW.o.size)).mono P.o.2.1)) (a8 P.o.2.1 (HW.o.trans (b.o.mono HW.o.size)).size)).mono ?_);rintro _ R ⟨rfl,f⟩;have b:=qh (b.o.trans (f.mono b.o.size));obtain⟨J,O,S,H,K,L,G,I⟩:=z.o _ b.o;clear f;try have m:=o.o _ b.o) | (go_at_call 84;(refine (wS nm _ Q.o.1 (aA HS.o.1 (HW.o.trans (b.o.mono HW.o.size)))).mono ?_);rintro _ R ⟨rfl,f⟩;have b:=qh (b.o.trans (f.mono b.o.size));obtain⟨J,O,S,H,K,L,G,I⟩:=z.o _ b.o;clear f;try have m:=o.o _ b.o))
  all_goals
   go_ret
   try have T:=aq.o
   try have X:=U.o
   try have s:=av.o
   try have aa:=ac.o
   try have Z:=am.o
   try have Xj:=Y.o
   try have Xk:=ap.o
   try have Nu:=Xi.o
   try have C:=ab.o
   try have q:=ao.o
   try have aL:=V.o
   try have i:=ak.o
   try have y:=ar.o
   try have an:=ae.o
   try have ay:=al.o
   exact⟨ag (by unfold yI;(try simp only[T]);(try simp only[s]);(try simp only[aa]);(try simp only[X]);(try simp only[Z]);(try have x4:=X4 s i C HS.o.2);(try simp only[x4,an]);(try unfold dH);(try simp only[C]);(try have y0:=beq_iff_eq.1 Xj);(try have y0:=beq_eq_false_iff_ne.1 Xj);(try have y1:=beq_iff_eq.1 Xk);(try have y1:=beq_eq_false_iff_ne.1 Xk);(try have y2:=bne_iff_ne.1 Nu);(try have y2:=BZ Nu);(try have y3:=bne_iff_ne.1 q);(try have y3:=BZ q);(try have y4:=bn.1 i);(try have y4:=agH i);(try have y5:=agI y);(try have y5:=agJ y);first | (simp[*];done) | (simp[*];omega)),HW.o.trans (b.o.mono HW.o.size)⟩
theorem Fe {w:World} {B:Nat} {l:List Ex} {A':Option Addr} {cs:List Value} (f:Reads w B 8 A' l.length cs) (d:∀ i (h:i<l.length),aZ w B l[i] ((cs.drop (i*8)).take 8)) :
  0<l.length->∃ ad,A'=some ad/\ad.block<B/\w.cell? ad=some (aM aR (EX l)):=by
 intro h;obtain⟨ad,rfl,g,j⟩:=f.2 h;refine⟨ad,rfl,g,?_⟩;have c:=d 0 h;obtain⟨a,r,rfl⟩:∃ a r,l=a :: r:=by cases l with
  | nil=>simp at h
  | cons a r=>exact⟨a,r,rfl⟩
 have b:=j 0;rw[show ad.add 0=ad from rfl] at b;refine b _ ?_;generalize e:(cs.drop (0*8)).take 8=ci at c;obtain⟨-,-,-,-,-,-,-⟩:=c;have:((cs.drop (0*8)).take 8)[0]?=some (aM aR (EX (a :: r))):=by rw[e];rfl
 rw[List.getElem?_take,List.getElem?_drop] at this;simpa using this
theorem Ff (e:Ex):∀ (B:Nat) (cs:List Value) (w:World),aZ w B e cs->B<=w.heap.size ->
  IE 235 #[.agg cs.toArray] w (aM aR e.fault):=by
 induction e using Ex.ind with
 | h e ih =>
  rintro B cs w z x;have ab:=qh z;obtain⟨hn,hs,hl,N,z,Q,P⟩:=z;rename_i A c A' c' cs;have S:=qh (a5 Q P);have HI:=qh ih;have HA:=qh N;have V:=qh (λ w' C E =>IB e.k e.op e.nm e.v e.ar.length (EX e.ar) A c A' c' B w' hn hs hl N (z.below C) E (Fe (Q.below C) (λ i h=>(P i h).keep C)));unfold maxLen at N;clear Q P ih z;obtain⟨f,hf⟩:=af (jQ e);have O:=qh hf;have H:=qh (Aa e);clear hf;show Calls Tryz.prog 235 #[.agg (BC e A c A' e.ar.length c')] w _;go_enter Tryz.func235,Tryz.ntmps235;go_wp2_with fail;obtain⟨W,n⟩:=aC ((w.alloc (.cells (BC e A c A' e.ar.length c') 67 (0,0))));have d:IY w W:=by rw[n];exact ((Below.refl _ w).alloc (a4 _) _)
  have B0:ah W (w.heap.size) 67 (BC e A c A' e.ar.length c'):=by
   rw[n];have:=ah.new w 67 (BC e A c A' e.ar.length c');exact this
  have M:W.heap.size=w.heap.size+1:=by rw[n];simp
  rw[<- n];clear n M;refine (V.o W (d.mono x) (a8 x d.size)).mono ?_;rw[show yI e.k e.op e.nm e.v e.ar.length (EX e.ar)=f from O.o];rintro I w1 ⟨rfl,p⟩;have B0:=B0.below p B0.lt;have d:=d.trans (p.mono d.size);clear p V;obtain⟨dO,eH,ik,iq,jK,jL,jM,jO⟩:=ah.c8 B0;by_cases h0:f=0;rotate_left
  .have bf:(f != 0)=true:=by simpa using h0
   have D:=qh (H.o.trans (by rw[O.o,if_pos h0]));clear h0;go_wp2;go_ret;exact⟨ag (by rw[D.o]),d⟩
  subst h0;have D:=qh (show e.fault=jc e.ar from H.o.trans (by rw[O.o,if_neg (by omega)]));clear H;go_wp2;go_loopw [15] (λ i wr=>∃ k:Nat,k<=e.ar.length/\i = aM aR k/\Hid (jc e.ar=jc (e.ar.drop k))/\IY w wr) (λ i _=>e.ar.length - (intOf i).toNat)
  case atStart=>exact⟨0,a9 _,rfl,qh rfl,d⟩
  case round =>
   obtain⟨k,hk,rfl,F,j⟩:=hrel;have U:=j.size;have Z:=j.mono x;by_cases hlt:k<e.ar.length
   .obtain⟨ad,ci,rfl,C,q,b⟩:=aZ.arg (S.o.1.below Z) (λ i h=>(S.o.2 i h).keep Z) hlt;obtain⟨a,m⟩:=af (e.ar[k]);have t:a∈e.ar:=by rw[<- m];exact bc hlt
    obtain⟨g,R⟩:=af (a.fault);have Qn:=qh R;have X:=qh (show jc (e.ar.drop k)=if g≠0 then g else jc (e.ar.drop (k+1)) by
     rw[bb hlt,m,jc,R])
    have aW:=qh hlt;have v:=qh (λ w' h1 h2=>HI.o a t B ci w' h1 h2);rw[m] at q;have nP:=qh q;obtain⟨aa,ae,ak,al,J,K,L⟩:=q;rename_i A1 T Y s ac;obtain⟨kC,kT,nZ,tV,tX,tY,tZ,wJ⟩:=Cm b;clear J K L b m t R;go_wp2_with fail;obtain⟨W,n⟩:=aC (wr.alloc (.cells (BC a A1 T Y a.ar.length s) 67 (0,0)));have o:IY wr W:=n▸(Below.refl _ wr).alloc (a4 _) _;rw[<- n];have l:=j.trans (o.mono U);have u:=o.mono (a8 x U);clear n kC kT nZ tV tX tY tZ wJ;refine (v.o W (nP.o.keep u) (a8 x l.size)).mono ?_;rw[Qn.o];rintro I w3 ⟨rfl,y⟩;have d:=l.trans (y.mono l.size);clear y o u l v;by_cases hg0:g=0;rotate_left
    .have bg:(g != 0)=true:=by simpa using hg0
     have r:=qh (show e.fault=g by rw[D.o,F.o,X.o,if_pos hg0]);clear hg0;go_wp2;go_ret;exact⟨ag (by rw[r.o]),d⟩
    subst hg0;have G:=qh (show jc e.ar=jc (e.ar.drop (k+1)) by rw[F.o,X.o,if_neg (by omega)]);go_wp2;go_roundw
    case rel=>exact⟨k+1,aW.o,by go_num,G,d⟩
    case measure =>
     have:=aW.o;simp[intOf];omega
   .have r:=qh (show e.fault=0 by rw[D.o,F.o,bo (by omega)];rfl);go_wp2;go_ret;exact⟨ag (by rw[r.o]),j⟩
theorem Qo (e:Ex):∀ (B:Nat) (cs:List Value) (w:World),aZ w B e cs->B<=w.heap.size->e.parts<=1000000->Sp w ->
  IE 83 #[.agg cs.toArray] w (aM aR e.fault):=by
 induction e using Ex.ind with
 | h e ih =>
  rintro B cs w C x aa z;have ac:=qh C;obtain⟨hn,hs,hl,P,C,S,R⟩:=C;rename_i A c A' c' cs;have X:=qh (a5 S R);have HI:=qh ih;have HA:=qh P;have HP:=qh (λ w' D F T M=>Ku e.k e.op e.nm e.v e.ar.length (EX e.ar) A c A' c' B w' hn hs hl P (C.below D) F (Fe (S.below D) (λ i h=>(R i h).keep D)) T M);have V:=qh z;have SZ:=qh (λ a (h:a∈e.ar)=>(show a.parts<=1000000 by have:=qj h;have:=parts_eq e;omega));unfold maxLen at P;clear S R ih C z;obtain⟨f,hf⟩:=af (jQ e);have Q:=qh hf;have I:=qh (Aa e);clear hf;show Calls Tryz.prog 83 #[.agg (BC e A c A' e.ar.length c')] w _;go_enter Tryz.func83,Tryz.ntmps83;go_wp2_with fail;obtain⟨W,n⟩:=aC ((w.alloc (.cells (BC e A c A' e.ar.length c') 67 (0,0))));have d:IY w W:=by rw[n];exact ((Below.refl _ w).alloc (a4 _) _)
  have B0:ah W (w.heap.size) 67 (BC e A c A' e.ar.length c'):=by
   rw[n];have:=ah.new w 67 (BC e A c A' e.ar.length c');exact this
  have O:W.heap.size=w.heap.size+1:=by rw[n];simp
  rw[<- n];clear n O;refine (HP.o W (d.mono x) (a8 x d.size) (aA V.o d) (by have:=xQ e.ar;have:=parts_eq e;omega)).mono ?_;rw[show yI e.k e.op e.nm e.v e.ar.length (EX e.ar)=f from Q.o];rintro J w1 ⟨rfl,q⟩;have B0:=B0.below q B0.lt;have d:=d.trans (q.mono d.size);clear q HP;obtain⟨dO,eH,ik,iq,jK,jL,jM,jO⟩:=ah.c8 B0;by_cases h0:f=0;rotate_left
  .have bf:(f != 0)=true:=by simpa using h0
   have E:=qh (I.o.trans (by rw[Q.o,if_pos h0]));clear h0;go_wp2;go_ret;exact⟨ag (by rw[E.o]),d⟩
  subst h0;have E:=qh (show e.fault=jc e.ar from I.o.trans (by rw[Q.o,if_neg (by omega)]));clear I;go_wp2;go_loopw [15] (λ i wr=>∃ k:Nat,k<=e.ar.length/\i = aM aR k/\Hid (jc e.ar=jc (e.ar.drop k))/\IY w wr) (λ i _=>e.ar.length - (intOf i).toNat)
  case atStart=>exact⟨0,a9 _,rfl,qh rfl,d⟩
  case round =>
   obtain⟨k,hk,rfl,G,l⟩:=hrel;have Z:=l.size;have ui:=l.mono x;by_cases hlt:k<e.ar.length
   .obtain⟨ad,ci,rfl,D,r,b⟩:=aZ.arg (X.o.1.below ui) (λ i h=>(X.o.2 i h).keep ui) hlt;obtain⟨a,m⟩:=af (e.ar[k]);have p:a∈e.ar:=by rw[<- m];exact bc hlt
    obtain⟨g,U⟩:=af (a.fault);have Qn:=qh U;have lq:=qh (show jc (e.ar.drop k)=if g≠0 then g else jc (e.ar.drop (k+1)) by
     rw[bb hlt,m,jc,U])
    have aW:=qh hlt;have v:=qh (λ w' T M=>HI.o a p B ci w' T M (SZ.o a p));rw[m] at r;have nP:=qh r;obtain⟨ab,ak,al,am,K,L,N⟩:=r;rename_i A1 Y Xd t ae;obtain⟨kC,kT,nZ,tV,tX,tY,tZ,wJ⟩:=Cm b;clear K L N b m p U;go_wp2_with fail;obtain⟨W,n⟩:=aC (wr.alloc (.cells (BC a A1 Y Xd a.ar.length t) 67 (0,0)));have o:IY wr W:=n▸(Below.refl _ wr).alloc (a4 _) _;rw[<- n];have j:=l.trans (o.mono Z);have u:=o.mono (a8 x Z);clear n kC kT nZ tV tX tY tZ wJ;refine (v.o W (nP.o.keep u) (a8 x j.size) (aA V.o j)).mono ?_;rw[Qn.o];rintro J w3 ⟨rfl,y⟩;have d:=j.trans (y.mono j.size);clear y o u j v;by_cases hg0:g=0;rotate_left
    .have bg:(g != 0)=true:=by simpa using hg0
     have s:=qh (show e.fault=g by rw[E.o,G.o,lq.o,if_pos hg0]);clear hg0;go_wp2;go_ret;exact⟨ag (by rw[s.o]),d⟩
    subst hg0;have H:=qh (show jc e.ar=jc (e.ar.drop (k+1)) by rw[G.o,lq.o,if_neg (by omega)]);go_wp2;go_roundw
    case rel=>exact⟨k+1,aW.o,by go_num,H,d⟩
    case measure =>
     have:=aW.o;simp[intOf];omega
   .have s:=qh (show e.fault=0 by rw[E.o,G.o,bo (by omega)];rfl);go_wp2;go_ret;exact⟨ag (by rw[s.o]),l⟩
end Go.Proofs.YtcnagconagpkcaaGreatDoor
