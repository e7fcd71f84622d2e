/- Lemmas. -/
import Derived.Test.YtcnagconagpkcaaGreatDoorZ8
import Derived.LoopN
import Derived.RegionTactic
open Go.Value renaming int->aZ, string->a1, slice->a2, pointer->a3, bool->a4, string->be
open Go.IntKind renaming i64->a0
open Go.Ending renaming returned->a5, returned->a8
open Nat renaming le_refl->a6, le_trans->bc, le_of_lt->bq, lt_of_lt_of_le->br
open Go.Lib renaming hasPrefix->a7, indexByte->bb, split->bh, extract_data->bl
open Go.Instr renaming index->a9
open List renaming getD_eq_getElem?_getD->ba, drop_eq_getElem_cons->bf, length_drop->bg, length_tail->bi, length_cons->bj, drop_eq_nil_of_le->bk, take_of_length_le->bm, mem_cons_self->bn, mem_cons_of_mem->bo, isPrefixOf->bp
open Array renaming length_toList->bd
set_option maxHeartbeats 4000000
set_option maxRecDepth 100000
namespace Go.Proofs.YtcnagconagpkcaaGreatDoor
open Tryz
open Tryz renaming prog->lM
section
def jK (nt:NT) (l:List Tok):Nat:=12*l.length+fV nt
structure Agree (m:Nat) (p q:NT->List Ex->List Tok->uT):Prop where
 eq:∀ nt acc l,jK nt l<=m->p nt acc l=q nt acc l
 len:∀ nt acc l es l',p nt acc l = .ok es l'->l'.length<=l.length
theorem bind_congr {r b:uT} {k k':List Ex->List Tok->uT} {m:Nat} (e:r=b) (d:∀ a l,r = .ok a l->l.length<=m) (c:∀ a l,l.length<=m->k a l=k' a l):r.bind k=b.bind k':=by
 subst e;cases r with
 | err p=>rfl
 | ok a l=>exact c a l (d a l rfl)
theorem Fz {n m:Nat} {w:List UInt8} {l:List Tok} {k k':List Tok->uT} (b:l.length<=m) (a:∀ l,l.length+1<=m->k l=k' l):dG n w l k=dG n w l k':=by
 unfold dG;split
 .rename_i h;cases l with
  | nil=>cases h
  | cons t r=>exact a _ (by simpa using b)
 .rfl
theorem DV {l:List Tok} {w:List UInt8} (h:lG l w=true):l.tail.length+1=l.length:=by
 cases l with
 | nil=>cases h
 | cons t r=>rfl
theorem FB {a b:Int} {l:List Tok} (h:fU a b l≠0):l.tail.length+1=l.length:=by
 cases l with
 | cons t r=>rfl
 | nil =>
  refine absurd ?_ h;unfold fU;rw[if_neg (by simp[lG])];rw[List.find?_eq_none.2 (λ o _=>by simp[lG])]
theorem FC {n m:Nat} {p q:NT->List Ex->List Tok->uT} (h:Agree m p q) (g:NT) (d:List Ex) (l:List Tok) (i:jK g l<=m+1):iC n p g d l=iC n q g d l:=by
 have H:=h.eq;have L:=h.len;unfold jK at H i;cases g <;> dsimp only[iC,fV] at i ⊢
 case or=>exact bind_congr (m:=l.length) (H _ _ _ (by simp only[fV];omega)) (λ _ _ e=>L _ _ _ _ _ e) (λ _ _ a=>H _ _ _ (by simp only[fV];omega))
 case UJ =>
  split
  .rename_i b;have:=DV b;exact bind_congr (m:=l.tail.length) (H _ _ _ (by simp only[fV];omega)) (λ _ _ e=>L _ _ _ _ _ e) (λ _ _ a=>H _ _ _ (by simp only[fV];omega))
  .rfl
 case and=>exact bind_congr (m:=l.length) (H _ _ _ (by simp only[fV];omega)) (λ _ _ e=>L _ _ _ _ _ e) (λ _ _ a=>H _ _ _ (by simp only[fV];omega))
 case AV =>
  split
  .rename_i b;have:=DV b;exact bind_congr (m:=l.tail.length) (H _ _ _ (by simp only[fV];omega)) (λ _ _ e=>L _ _ _ _ _ e) (λ _ _ a=>H _ _ _ (by simp only[fV];omega))
  .rfl
 case not =>
  split
  .rename_i b;have:=DV b;exact bind_congr (m:=l.tail.length) (H _ _ _ (by simp only[fV];omega)) (λ _ _ e=>L _ _ _ _ _ e) (λ _ _ a=>rfl)
  .refine bind_congr (m:=l.length) (H _ _ _ (by simp only[fV];omega)) (λ _ _ e=>L _ _ _ _ _ e) (λ _ f a=>?_);split
   .rfl
   .rename_i c;have:=FB c;exact bind_congr (m:=f.tail.length) (H _ _ _ (by simp only[fV];omega)) (λ _ _ e=>L _ _ _ _ _ e) (λ _ _ a=>rfl)
 case sum=>exact bind_congr (m:=l.length) (H _ _ _ (by simp only[fV];omega)) (λ _ _ e=>L _ _ _ _ _ e) (λ _ _ a=>H _ _ _ (by simp only[fV];omega))
 case Dp =>
  split
  .rfl
  .rename_i c;have:=FB c;exact bind_congr (m:=l.tail.length) (H _ _ _ (by simp only[fV];omega)) (λ _ _ e=>L _ _ _ _ _ e) (λ _ _ a=>H _ _ _ (by simp only[fV];omega))
 case product=>exact bind_congr (m:=l.length) (H _ _ _ (by simp only[fV];omega)) (λ _ _ e=>L _ _ _ _ _ e) (λ _ _ a=>H _ _ _ (by simp only[fV];omega))
 case ji =>
  split
  .rfl
  .rename_i c;have:=FB c;exact bind_congr (m:=l.tail.length) (H _ _ _ (by simp only[fV];omega)) (λ _ _ e=>L _ _ _ _ _ e) (λ _ _ a=>H _ _ _ (by simp only[fV];omega))
 case minus =>
  split
  .rename_i b;have:=DV b;split
   .rfl
   .exact bind_congr (m:=l.tail.length) (H _ _ _ (by simp only[fV];omega)) (λ _ _ e=>L _ _ _ _ _ e) (λ _ _ a=>rfl)
  .exact H _ _ _ (by simp only[fV];omega)
 case eY =>
  split
  .rfl
  .rename_i t r;have k:r.tail.length<=r.length:=by rw[bi];omega
   have j:r.tail.tail.length<=r.length:=by rw[bi];omega
   simp only[bj] at i;split
   .rfl
   split
   .rfl
   split
   .exact bind_congr (m:=r.length) (H _ _ _ (by simp only[fV];omega)) (λ _ _ e=>L _ _ _ _ _ e) (λ _ _ a=>rfl)
   split
   .rfl
   split
   .rfl
   split
   .split
    .rfl
    .exact Fz (m:=r.length) j (λ f a=>bind_congr (m:=r.length) (H _ _ _ (by simp only[fV];omega)) (λ _ _ e=>bc (L _ _ _ _ _ e) (by omega)) (λ _ _ _=>rfl))
   split
   .exact bind_congr (m:=r.length) (H _ _ _ (by simp only[fV];omega)) (λ _ _ e=>bc (L _ _ _ _ _ e) (by omega)) (λ _ _ a=>rfl)
   .rfl
 case args=>exact bind_congr (m:=l.length) (H _ _ _ (by simp only[fV];omega)) (λ _ _ e=>L _ _ _ _ _ e) (λ _ _ a=>H _ _ _ (by simp only[fV];omega))
 case oW =>
  split
  .exact Fz (m:=l.length) (a6 _) (λ f a=>bind_congr (m:=f.length) (H _ _ _ (by simp only[fV];omega)) (λ _ _ e=>L _ _ _ _ _ e) (λ _ _ a=>H _ _ _ (by simp only[fV];omega)))
  .rfl
theorem YP (n:Nat):∀ (f c:Nat) (b:NT) (a:List Ex) (l:List Tok),jK b l<=f->jK b l<=c->P n f b a l=P n c b a l
 | 0,_,b,_,_,h,_=>by unfold jK at h;cases b <;> simp[fV] at h
 | _+1,0,b,_,_,_,h=>by unfold jK at h;cases b <;> simp[fV] at h
 | f+1,c+1,b,a,l,h,h'=>by
  rw[P,P];refine FC (m:=min f c) ⟨λ b a l d=>YP n f c b a l (bc d (Nat.min_le_left _ _)) (bc d (Nat.min_le_right _ _)),λ b a l g i e=>SH n f b a l g i _ e (a6 _)⟩ b a l (by omega)
noncomputable def Pz (n:Nat) (nt:NT) (acc:List Ex) (l:List Tok):uT:=P n (jK nt l) nt acc l
theorem vN {n:Nat} {d:NT} {a:List Ex} {l:List Tok} {c:List Ex} {b:List Tok} (h:Pz n d a l = .ok c b):b.length<=l.length:=SH n _ d a l c b _ h (a6 _)
theorem gY (n:Nat) (b:NT) (a:List Ex) (l:List Tok):Pz n b a l=iC n (Pz n) b a l:=by
 have g:∃ m,jK b l=m+1:=by
  unfold jK;cases b <;> exact⟨_,rfl⟩
 obtain⟨m,c⟩:=g;unfold Pz;rw[c,P];exact FC (m:=m) ⟨λ b a l h=>YP n m _ b a l h (a6 _),λ b a l d f e=>SH n m b a l d f _ e (a6 _)⟩ b a l (by omega)
theorem Vt (s:List UInt8):P s.length (12*(wordsOf s 0).length+7) .or [] (wordsOf s 0)=Pz s.length .or [] (wordsOf s 0):=rfl
open Vtx Go.Lib Dig
theorem IP {c:UInt8} (h:c≠32):bF c=false:=by unfold bF;exact decide_eq_false h
def amQ (s:List UInt8) (i:Nat):Prop:=i=0\/gp (s.getD (i - 1) 0)=false
def Stop (rest:List UInt8):Prop:=∀ c r,rest=c :: r->c=32\/c=41\/c=44
theorem YQ {c:UInt8} (h:rW c=true):gp c=true:=by unfold gp;rw[h];rfl
theorem Vu {b:UInt8} (h:dF b):48<=b.toNat/\b.toNat<=57:=by
 unfold dF at h;omega
theorem acI {b:UInt8} (h:dF b):fQ b=true:=by
 have:=Vu h;unfold fQ;simp;omega
theorem acJ {c:UInt8} {a:List UInt8} (g:rW c=false) (e:fQ c=false) (b:c≠64/\c≠35/\c≠39/\c≠123) (f:∀ d r,a=d :: r->Qk c d=false):dh ([c] ++ a) = [c].length:=by
 rw[List.singleton_append,dh,if_neg (by rw[g];decide),if_neg (by rw[e];decide),if_neg b.1,if_neg b.2.1,if_neg b.2.2.1,if_neg b.2.2.2];cases a with
 | nil=>rfl
 | cons d r=>unfold qm;simp[f d r rfl]
section
variable {s:List UInt8}
def HW (s:List UInt8) (w f:List UInt8):Prop:=∀ i rest,s.drop i=w ++ rest->Stop rest->amQ s i->∃ r,wordsOf s i=⟨i,f,false⟩ :: r
theorem YR {a:List Ex} {l:List Tok} (h:lG l XV=false):Pz s.length .AV a l = .ok (CG 2 a) l:=by rw[gY];exact if_neg (by rw[h];decide)
theorem acK {a:List Ex} {l:List Tok} (h:lG l orW=false):Pz s.length .UJ a l = .ok (CG 3 a) l:=by rw[gY];exact if_neg (by rw[h];decide)
theorem afs {c:UInt8} (h:c≠60/\c≠62) (a:List UInt8):∀ d r,a=d :: r->Qk c d=false:=λ d r _=>by
 unfold Qk;simp[h.1,h.2]
end
theorem aft {x v:Val} (h:(⟨x.k,x.n,x.s.data.toList,x.l⟩:Q)=⟨v.k,v.n,v.s.data.toList,v.l⟩):x=v:=by
 obtain⟨k,n,s,l⟩:=x;obtain⟨b,d,s',c⟩:=v;injection h with h1 h2 h3 h4;simp only at h1 h2 h3 h4;have a:s=s':=ByteArray.ext (Array.toList_inj.1 h3);subst h1 h2 a h4;rfl
theorem QM {v:Val} (h:df v=0):uB (showT v.k v.n v.s.data.toList v.l)=some v:=by
 have a:∃ x:Val,df x=0/\showT x.k x.n x.s.data.toList x.l=showT v.k v.n v.s.data.toList v.l:=⟨v,h,rfl⟩;unfold uB;rw[dif_pos a];have b:=a.choose_spec;have c:=tC (x8 b.1).1;rw[b.2,tC (x8 h).1] at c;rw[aft (Option.some.inj c).symm]
theorem nd {b:UInt8} (h:fQ b=false):¬ dF b:=λ e=>by rw[acI e] at h;cases h
section
variable {s:List UInt8}
end
def kD (a:Option UInt8) (l:List UInt8):Bool:=match a,l with
 | some a,d :: _=>(fQ a || decide (a=35)) && fQ d
 | _,_=>false
theorem acL (a l:List UInt8):SG a l=kD a.getLast? l:=by
 unfold SG kD;rfl
theorem FH (l:List UInt8):(l.dropWhile bF).length<=l.length:=(List.dropWhile_sublist _).length_le
def Af (a:Option UInt8):List UInt8->List UInt8
 | []=>[]
 | c :: r=>if c≠32 then c :: Af (some c) r else if kD a (r.dropWhile bF) then 32 :: Af (some 32) (r.dropWhile bF) else Af a (r.dropWhile bF)
termination_by l=>l.length
decreasing_by
 all_goals have:=FH r
 all_goals simp
 all_goals omega
theorem YS (a:Option UInt8):Af a [] = []:=by rw[Af]
theorem Tq (a:Option UInt8) {c:UInt8} (r:List UInt8) (h:c≠32):Af a (c :: r)=c :: Af (some c) r:=by rw[Af,if_pos h]
theorem Ob (a:Option UInt8) (r:List UInt8):Af a (32 :: r)=if kD a (r.dropWhile bF) then 32 :: Af (some 32) (r.dropWhile bF) else Af a (r.dropWhile bF):=by rw[Af,if_neg (by simp)]
theorem FI:∀ (f:Nat) (a l:List UInt8),l.length<f->qI f a l=a ++ Af a.getLast? l
 | 0,_,_,h=>by omega
 | f+1,a,[],_=>by rw[qI,YS,List.append_nil]
 | f+1,a,c :: r,h=>by
  have b:r.length<f:=by simpa using h
  have d:=FH r;rw[qI];by_cases hc:c=32
  .subst hc;rw[if_neg (by simp),FI f _ _ (by omega),acL,Ob];by_cases hk:kD a.getLast? (r.dropWhile bF)=true
   .rw[if_pos hk,if_pos hk];simp
   .rw[if_neg hk,if_neg hk]
  .rw[if_pos hc,FI f _ _ b,Tq _ _ hc];simp
theorem YT (s:List UInt8):lL s=Af none s:=by
 unfold lL;rw[FI _ _ _ (Nat.lt_succ_self _)];rfl
def tp (p:List UInt8):List UInt8:=Af (some 44) p
theorem yt {x:List UInt8} (h:∀ v:Val,df v=0->showT v.k v.n v.s.data.toList v.l≠x):uB x=none:=by
 unfold uB;rw[dif_neg (λ ⟨v,b,a⟩=>h v b a)]
theorem lS {s:List UInt8} {i:Nat} {t:Tok} {r:List Tok} (h:wordsOf s i=t :: r):dE s i=some t/\r=wordsOf s (t.at_+t.tx.length):=by
 rw[gy] at h;split at h
 .cases h
 .rename_i u a;injection h with h1 h2;subst h1;exact⟨a,h2.symm⟩
theorem drop_cons {s:List UInt8} {j:Nat} (h:j<s.length):s.drop j=s.getD j 0 :: s.drop (j+1):=by
 rw[bf h,ba,List.getElem?_eq_getElem h];rfl
theorem rJ {s:List UInt8} {i:Nat} {t:Tok} (h:dE s i=some t):∃ w,t.tx=s.getD t.at_ 0 :: w/\s.getD t.at_ 0≠32:=by
 obtain⟨o,f,p,n,e,b,j⟩:=iV h;obtain⟨m,d⟩:∃ m,dh (s.drop t.at_)=m+1:=⟨dh (s.drop t.at_) - 1,by omega⟩;rw[drop_cons f] at b d;rw[d,List.take_succ_cons] at b;refine⟨_,b,?_⟩
 -- the byte behind the blanks is none
 have key:∀ l:List UInt8,∀ k,k=bQ bF l->k<l.length->l.getD k 0≠32:=by
  intro l
  induction l with
  | nil=>intro k _ h;simp at h
  | cons c r ih =>
   intro k a g;rw[bQ] at a;by_cases hc:c=32
   .subst hc;rw[show bF 32=true from rfl,if_pos rfl] at a;subst a;have:=ih _ rfl (by simpa using g);simpa [ba] using this
   .rw[IP hc,if_neg (by decide)] at a;subst a;simpa [ba] using hc
 have:=key (s.drop i) _ rfl (by rw[bg];omega);rw[ba,List.getElem?_drop,<- e] at this;rw[ba];exact this
theorem Vw {s:List UInt8} {i:Nat} {t:Tok} (h:dE s i=some t):t.touch=(decide (t.at_=i) && decide (0<i) && gp (s.getD (i - 1) 0) && gp (s.getD i 0)):=by
 unfold dE at h;split at h
 .injection h with h;rw[<- h];dsimp only;congr 3;exact decide_eq_decide.2 (by omega)
 .cases h
theorem FK {s:List UInt8} {i:Nat} {t:Tok} (h:dE s i=some t) {c:UInt8} {w:List UInt8} (e:t.tx=c :: w) (b:gp c=false):t.touch=false:=by
 obtain⟨w',a,-⟩:=rJ h;rw[Vw h];by_cases hi:t.at_=i
 .rw[e] at a;injection a with a _;rw[<- hi,<- a,b];simp
 .rw[decide_eq_false hi];rfl
theorem pI {s:List UInt8} {i:Nat} (h:dE s i=none):wordsOf s i = []:=by rw[gy,h]
theorem JX {s:List UInt8} {i:Nat} (h:i<s.length) (a:s.getD i 0≠32):∃ u,dE s i=some u/\u.at_=i:=by
 have b:bQ bF (s.drop i)=0:=by rw[drop_cons h,bQ,IP a];rfl
 unfold dE;rw[b,Nat.add_zero,if_pos h];exact⟨_,rfl,rfl⟩
theorem acM {s:List UInt8} {i:Nat} {t:Tok} (h:dE s i=some t) (e:t.tx.length=1):JD (t :: wordsOf s (t.at_+t.tx.length))=(decide (t.at_+1<s.length) && fQ (s.getD (t.at_+1) 0)):=by
 rw[e];by_cases hl:t.at_+1<s.length
 .rw[decide_eq_true hl,Bool.true_and];cases hu:dE s (t.at_+1) with
  | none =>
   rw[pI hu];by_cases b:s.getD (t.at_+1) 0=32
   .rw[b];rfl
   .obtain⟨u,a,-⟩:=JX hl b;rw[hu] at a;cases a
  | some u =>
   rw[gy,hu];obtain⟨w,f,b⟩:=rJ hu;have g:=(iV hu).1;by_cases ha:u.at_=t.at_+1
   .show (decide (u.at_=t.at_+1) && (match u.tx with | c :: _=>fQ c | []=>false))=_;rw[decide_eq_true ha,f,ha];rfl
   .show (decide (u.at_=t.at_+1) && (match u.tx with | c :: _=>fQ c | []=>false))=_;rw[decide_eq_false ha,Bool.false_and];by_cases hb:s.getD (t.at_+1) 0=32
    .rw[hb];rfl
    .obtain⟨u2,a,d⟩:=JX hl hb;rw[hu] at a;injection a with a;rw[a] at ha;exact absurd d ha
 .rw[decide_eq_false hl,Bool.false_and];have:dE s (t.at_+1)=none:=by
   cases hu:dE s (t.at_+1) with
   | none=>rfl
   | some u =>
    have:=iV hu;omega
  rw[pI this];rfl
theorem QN {s:List UInt8} {t:Tok} {j:Nat} (g:j=t.at_+t.tx.length):wH t (wordsOf s j)=(decide (j<s.length) && decide (s.getD j 0=40)):=by
 by_cases hl:j<s.length
 .rw[decide_eq_true hl,Bool.true_and];cases hu:dE s j with
  | none =>
   rw[pI hu];by_cases b:s.getD j 0=32
   .rw[b];rfl
   .obtain⟨u,a,-⟩:=JX hl b;rw[hu] at a;cases a
  | some u =>
   rw[gy,hu];obtain⟨w,f,b⟩:=rJ hu;show (decide (u.tx = [40]) && decide (u.at_=t.at_+t.tx.length))=_;by_cases ha:u.at_=j
   .rw[decide_eq_true (ha.trans g),Bool.and_true];refine decide_eq_decide.2 ?_;rw[ha] at f;constructor
    .intro e;rw[f] at e;injection e
    .intro e;have d:=(iV hu).2.2.2.2.2.1;rw[ha,drop_cons hl,e] at d;have i:dh (40 :: s.drop (j+1))=1:=acJ (c:=40) (by decide) (by decide) (by decide) (afs (by decide) _);rw[i] at d;exact d
   .rw[show decide (u.at_=t.at_+t.tx.length)=false from decide_eq_false (λ e=>ha (e.trans g.symm)),Bool.and_false];by_cases hb:s.getD j 0=32
    .rw[hb];rfl
    .obtain⟨u2,a,h⟩:=JX hl hb;rw[hu] at a;injection a with a;rw[a] at ha;exact absurd h ha
 .rw[decide_eq_false hl,Bool.false_and];have:dE s j=none:=by
   cases hu:dE s j with
   | none=>rfl
   | some u =>
    have:=iV hu;omega
  rw[pI this];rfl
end
open Go.RowKit Vtx
theorem jc (c:UInt8) (w:World) :
  E5 284 #[.int .u8 (c.toNat:Nat)] w (a4 (fQ c)):=by
 go_enter func284,ntmps284;go_wp2
 all_goals (go_ret;exact⟨aH (by unfold fQ;rw[Bool.eq_iff_iff];simp;try omega),rfl⟩)
theorem toNat_eq (c:UInt8) (n:Nat) (a:n<256):(c=UInt8.ofNat n) ↔ c.toNat=n:=by
 constructor
 .rintro rfl;simp;omega
 .intro h;apply UInt8.toNat_inj.1;rw[h];simp;omega
theorem Vx (c:UInt8) (w:World) :
  E5 285 #[.int .u8 (c.toNat:Nat)] w (a4 (uA c)):=by
 obtain⟨b,a⟩:=af (fQ c);have f:=qh (show uA c=(b || decide (c.toNat=46)) by unfold uA;rw[a,show decide (c=46)=decide (c.toNat=46) from decide_eq_decide.2 (toNat_eq c 46 (by decide))]);have H:=qh (show ∀ w',Calls lM 284 #[.int .u8 (c.toNat:Nat)] w' λ e d=>e = a5 (a4 b)/\w'=d from λ w'=>by
  have h:=jc c w'
  rwa [a] at h)
 clear a;cases b
 .go_enter func285,ntmps285;go_wp2_with fail;refine (H.o _).mono ?_;rintro e g ⟨rfl,rfl⟩;go_wp2_with fail
  all_goals (go_ret;exact⟨aH (by rw[f.o];rw[Bool.eq_iff_iff];simp;try omega),rfl⟩)
 .go_enter func285,ntmps285;go_wp2_with fail;refine (H.o _).mono ?_;rintro e g ⟨rfl,rfl⟩;go_wp2_with fail
  all_goals (go_ret;exact⟨aH (by rw[f.o];rfl),rfl⟩)
theorem Vy (c:UInt8) (w:World) :
  E5 286 #[.int .u8 (c.toNat:Nat)] w (a4 (xI c)):=by
 obtain⟨b,a⟩:=af (fQ c);have f:=qh (show xI c=(b || decide (c.toNat=45)) by unfold xI;rw[a,show decide (c=45)=decide (c.toNat=45) from decide_eq_decide.2 (toNat_eq c 45 (by decide))]);have H:=qh (show ∀ w',Calls lM 284 #[.int .u8 (c.toNat:Nat)] w' λ e d=>e = a5 (a4 b)/\w'=d from λ w'=>by
  have h:=jc c w'
  rwa [a] at h)
 clear a;cases b
 .go_enter func286,ntmps286;go_wp2_with fail;refine (H.o _).mono ?_;rintro e g ⟨rfl,rfl⟩;go_wp2_with fail
  all_goals (go_ret;exact⟨aH (by rw[f.o];rw[Bool.eq_iff_iff];simp;try omega),rfl⟩)
 .go_enter func286,ntmps286;go_wp2_with fail;refine (H.o _).mono ?_;rintro e g ⟨rfl,rfl⟩;go_wp2_with fail
  all_goals (go_ret;exact⟨aH (by rw[f.o];rfl),rfl⟩)
theorem lT {s:ByteArray} {i:Nat} (h:i<s.size):s.data.toList.drop i=s[i] :: s.data.toList.drop (i+1):=by
 have a:i<s.data.toList.length:=by rw[bd];exact h
 rw[bf a];rfl
theorem drop_end {s:ByteArray} {i:Nat} (h:s.size<=i):s.data.toList.drop i = []:=bk (by rw[bd];exact h)
theorem kX {s:ByteArray} {p:UInt8->Bool} {i k:Nat} (h:i<s.size) (a:p s[i]=true) (b:k=i+bQ p (s.data.toList.drop i)):k=i+1+bQ p (s.data.toList.drop (i+1)):=by
 rw[b,lT h,bQ,a,if_pos rfl];omega
theorem mQ {s:ByteArray} {p:UInt8->Bool} {i k:Nat} (h:i<s.size) (a:p s[i]=false) (b:k=i+bQ p (s.data.toList.drop i)):k=i:=by
 rw[b,lT h,bQ,a,if_neg (by decide)];rfl
theorem pJ {s:ByteArray} {p:UInt8->Bool} {i k:Nat} (h:¬ i<s.size) (a:k=i+bQ p (s.data.toList.drop i)):k=i:=by
 rw[a,drop_end (by omega)];rfl
theorem Vz (g:Nat) (s:ByteArray) (k:Nat) (w:World) (v:w.cell? ⟨g,0,none⟩=some (a1 s)) (r:k<=s.size) (t:s.size<=4000) :
  E5 283 #[a3 (some ⟨g,0,none⟩),aZ a0 (k:Nat),.func (.func 57) #[] #[]] w (aZ a0 ((k+bQ gp (s.data.toList.drop k):Nat):Int)):=by
 obtain⟨K,j⟩:=af (k+bQ gp (s.data.toList.drop k));have p:=qh j.symm;rw[j];clear j;go_enter func283,ntmps283;go_wp2_with fail
 go_loop [1] (λ i=>∃ n:Nat,n<=s.size/\i = aZ a0 n/\Hid (K=n+bQ gp (s.data.toList.drop n))) (λ i=>s.size - (intOf i).toNat)
 case atStart=>exact⟨k,r,rfl,p⟩
 case round =>
  obtain⟨n,u,rfl,f⟩:=hrel;by_cases hlt:n<s.size
  .obtain⟨b,h⟩:=af (gp s[n]);have l:=qh h;have d:=qh hlt;have HW:=qh (show Calls lM 57 #[.int .u8 (s[n].toNat:Nat)] w λ e c=>e = a5 (a4 b)/\w=c from by
    exact (iR s[n] w).mono λ e c ⟨o,q⟩=>⟨o.trans (congrArg (λ x=>a8 (a4 x)) h),q⟩)
   clear h;cases b
   .have a:=qh (mQ d.o l.o f.o);go_wp2_with (go_at_call 57;refine HW.o.mono ?_;rintro e m ⟨rfl,rfl⟩);go_ret;exact⟨by rw[a.o];try rfl,rfl⟩
   .have a:=qh (kX d.o l.o f.o);go_wp2_with (go_at_call 57;refine HW.o.mono ?_;rintro e m ⟨rfl,rfl⟩)
    go_round
    case rel=>exact⟨n+1,d.o,by go_num,a⟩
    case measure =>
     have:=d.o;simp[intOf];omega
  .have a:=qh (pJ hlt f.o);go_wp2_with fail;go_ret;exact⟨by rw[a.o];try rfl,rfl⟩
theorem QO (g:Nat) (s:ByteArray) (k:Nat) (w:World) (v:w.cell? ⟨g,0,none⟩=some (a1 s)) (r:k<=s.size) (t:s.size<=4000) :
  E5 283 #[a3 (some ⟨g,0,none⟩),aZ a0 (k:Nat),.func (.func 285) #[] #[]] w (aZ a0 ((k+bQ uA (s.data.toList.drop k):Nat):Int)):=by
 obtain⟨K,j⟩:=af (k+bQ uA (s.data.toList.drop k));have p:=qh j.symm;rw[j];clear j;go_enter func283,ntmps283;go_wp2_with fail
 go_loop [1] (λ i=>∃ n:Nat,n<=s.size/\i = aZ a0 n/\Hid (K=n+bQ uA (s.data.toList.drop n))) (λ i=>s.size - (intOf i).toNat)
 case atStart=>exact⟨k,r,rfl,p⟩
 case round =>
  obtain⟨n,u,rfl,f⟩:=hrel;by_cases hlt:n<s.size
  .obtain⟨b,h⟩:=af (uA s[n]);have l:=qh h;have d:=qh hlt;have HW:=qh (show Calls lM 285 #[.int .u8 (s[n].toNat:Nat)] w λ e c=>e = a5 (a4 b)/\w=c from by
    exact (Vx s[n] w).mono λ e c ⟨o,q⟩=>⟨o.trans (congrArg (λ x=>a8 (a4 x)) h),q⟩)
   clear h;cases b
   .have a:=qh (mQ d.o l.o f.o);go_wp2_with (go_at_call 285;refine HW.o.mono ?_;rintro e m ⟨rfl,rfl⟩);go_ret;exact⟨by rw[a.o];try rfl,rfl⟩
   .have a:=qh (kX d.o l.o f.o);go_wp2_with (go_at_call 285;refine HW.o.mono ?_;rintro e m ⟨rfl,rfl⟩)
    go_round
    case rel=>exact⟨n+1,d.o,by go_num,a⟩
    case measure =>
     have:=d.o;simp[intOf];omega
  .have a:=qh (pJ hlt f.o);go_wp2_with fail;go_ret;exact⟨by rw[a.o];try rfl,rfl⟩
theorem VA (g:Nat) (s:ByteArray) (k:Nat) (w:World) (v:w.cell? ⟨g,0,none⟩=some (a1 s)) (r:k<=s.size) (t:s.size<=4000) :
  E5 283 #[a3 (some ⟨g,0,none⟩),aZ a0 (k:Nat),.func (.func 286) #[] #[]] w (aZ a0 ((k+bQ xI (s.data.toList.drop k):Nat):Int)):=by
 obtain⟨K,j⟩:=af (k+bQ xI (s.data.toList.drop k));have p:=qh j.symm;rw[j];clear j;go_enter func283,ntmps283;go_wp2_with fail
 go_loop [1] (λ i=>∃ n:Nat,n<=s.size/\i = aZ a0 n/\Hid (K=n+bQ xI (s.data.toList.drop n))) (λ i=>s.size - (intOf i).toNat)
 case atStart=>exact⟨k,r,rfl,p⟩
 case round =>
  obtain⟨n,u,rfl,f⟩:=hrel;by_cases hlt:n<s.size
  .obtain⟨b,h⟩:=af (xI s[n]);have l:=qh h;have d:=qh hlt;have HW:=qh (show Calls lM 286 #[.int .u8 (s[n].toNat:Nat)] w λ e c=>e = a5 (a4 b)/\w=c from by
    exact (Vy s[n] w).mono λ e c ⟨o,q⟩=>⟨o.trans (congrArg (λ x=>a8 (a4 x)) h),q⟩)
   clear h;cases b
   .have a:=qh (mQ d.o l.o f.o);go_wp2_with (go_at_call 286;refine HW.o.mono ?_;rintro e m ⟨rfl,rfl⟩);go_ret;exact⟨by rw[a.o];try rfl,rfl⟩
   .have a:=qh (kX d.o l.o f.o);go_wp2_with (go_at_call 286;refine HW.o.mono ?_;rintro e m ⟨rfl,rfl⟩)
    go_round
    case rel=>exact⟨n+1,d.o,by go_num,a⟩
    case measure =>
     have:=d.o;simp[intOf];omega
  .have a:=qh (pJ hlt f.o);go_wp2_with fail;go_ret;exact⟨by rw[a.o];try rfl,rfl⟩
theorem YU (g:Nat) (s:ByteArray) (k:Nat) (w:World) (v:w.cell? ⟨g,0,none⟩=some (a1 s)) (r:k<=s.size) (t:s.size<=4000) :
  E5 283 #[a3 (some ⟨g,0,none⟩),aZ a0 (k:Nat),.func (.func 284) #[] #[]] w (aZ a0 ((k+bQ fQ (s.data.toList.drop k):Nat):Int)):=by
 obtain⟨K,j⟩:=af (k+bQ fQ (s.data.toList.drop k));have p:=qh j.symm;rw[j];clear j;go_enter func283,ntmps283;go_wp2_with fail
 go_loop [1] (λ i=>∃ n:Nat,n<=s.size/\i = aZ a0 n/\Hid (K=n+bQ fQ (s.data.toList.drop n))) (λ i=>s.size - (intOf i).toNat)
 case atStart=>exact⟨k,r,rfl,p⟩
 case round =>
  obtain⟨n,u,rfl,f⟩:=hrel;by_cases hlt:n<s.size
  .obtain⟨b,h⟩:=af (fQ s[n]);have l:=qh h;have d:=qh hlt;have HW:=qh (show Calls lM 284 #[.int .u8 (s[n].toNat:Nat)] w λ e c=>e = a5 (a4 b)/\w=c from by
    exact (jc s[n] w).mono λ e c ⟨o,q⟩=>⟨o.trans (congrArg (λ x=>a8 (a4 x)) h),q⟩)
   clear h;cases b
   .have a:=qh (mQ d.o l.o f.o);go_wp2_with (go_at_call 284;refine HW.o.mono ?_;rintro e m ⟨rfl,rfl⟩);go_ret;exact⟨by rw[a.o];try rfl,rfl⟩
   .have a:=qh (kX d.o l.o f.o);go_wp2_with (go_at_call 284;refine HW.o.mono ?_;rintro e m ⟨rfl,rfl⟩)
    go_round
    case rel=>exact⟨n+1,d.o,by go_num,a⟩
    case measure =>
     have:=d.o;simp[intOf];omega
  .have a:=qh (pJ hlt f.o);go_wp2_with fail;go_ret;exact⟨by rw[a.o];try rfl,rfl⟩
theorem YV {s:ByteArray} {i k:Nat} (h:i+1<s.size) (b:s[i]=39) (a:s[i+1]=39) (c:k=i+dM (s.data.toList.drop i)):k=i+2+dM (s.data.toList.drop (i+2)):=by
 have e:dM (s[i] :: s[i+1] :: s.data.toList.drop (i+1+1))=dM (s.data.toList.drop (i+1+1))+2:=by rw[dM,if_neg (by simp[b]),if_pos a]
 rw[c,lT (i:=i) (by omega),lT h,e,show i+1+1=i+2 from rfl];omega
theorem YW {s:ByteArray} {i k:Nat} (h:i+1<s.size) (b:s[i]=39) (a:s[i+1]≠39) (c:k=i+dM (s.data.toList.drop i)):k=i+1:=by
 have e:dM (s[i] :: s[i+1] :: s.data.toList.drop (i+1+1))=1:=by rw[dM,if_neg (by simp[b]),if_neg a]
 rw[c,lT (i:=i) (by omega),lT h,e]
theorem YX {s:ByteArray} {i k:Nat} (h:i<s.size) (b:¬ i+1<s.size) (a:k=i+dM (s.data.toList.drop i)):k=i+1:=by
 rw[a,lT h,drop_end (i:=i+1) (by omega)];rfl
theorem VB {s:ByteArray} {i k:Nat} (h:i<s.size) (b:s[i]≠39) (a:k=i+dM (s.data.toList.drop i)):k=i+1+dM (s.data.toList.drop (i+1)):=by
 by_cases h2:i+1<s.size
 .have e:dM (s[i] :: s[i+1] :: s.data.toList.drop (i+1+1))=dM (s[i+1] :: s.data.toList.drop (i+1+1))+1:=by rw[dM,if_pos b]
  rw[a,lT h,lT h2,e];omega
 .rw[a,lT h,drop_end (i:=i+1) (by omega)];rfl
theorem YY {s:ByteArray} {i k:Nat} (h:¬ i<s.size) (a:k=i+dM (s.data.toList.drop i)):k=i:=by
 rw[a,drop_end (by omega)];rfl
theorem QP (g:Nat) (s:ByteArray) (k:Nat) (w:World) (r:w.cell? ⟨g,0,none⟩=some (a1 s)) (o:k<s.size) (p:s.size<=4000) :
  E5 287 #[a3 (some ⟨g,0,none⟩),aZ a0 (k:Nat)] w (aZ a0 ((k+1+dM (s.data.toList.drop (k+1)):Nat):Int)):=by
 obtain⟨K,h⟩:=af (k+1+dM (s.data.toList.drop (k+1)));have m:=qh h.symm;rw[h];clear h;go_enter func287,ntmps287;go_wp2_with fail
 go_loop [5] (λ i=>∃ n:Nat,n<=s.size/\i = aZ a0 n/\Hid (K=n+dM (s.data.toList.drop n))) (λ i=>s.size - (intOf i).toNat)
 case atStart=>exact⟨k+1,o,by go_num,m⟩
 case round =>
  obtain⟨n,q,rfl,d⟩:=hrel;by_cases hlt:n<s.size
  .have j:=qh hlt;by_cases yN:s[n].toNat=39
   .have b:s[n]=39:=(toNat_eq s[n] 39 (by decide)).2 yN;by_cases hl2:n+1<s.size
    .have l:((n:Int)+1)<(s.size:Int):=by omega
     by_cases h2:s[n+1].toNat=39
     .have a:=qh (YV hl2 b ((toNat_eq s[n+1] 39 (by decide)).2 h2) d.o);have c:=qh hl2;have b1:((s[n].toNat:Int) != 39)=false:=by simp;omega
      have b2:((s[n+1].toNat:Int) == 39)=true:=by simp;omega
      clear yN b h2;go_wp2_with fail
      go_round
      case rel=>exact⟨n+2,c.o,by go_num,a⟩
      case measure =>
       have:=c.o;simp[intOf];omega
     .have a:=qh (YW hl2 b (λ e=>h2 ((toNat_eq s[n+1] 39 (by decide)).1 e)) d.o);have b1:((s[n].toNat:Int) != 39)=false:=by simp;omega
      have b2:((s[n+1].toNat:Int) == 39)=false:=by simp;omega
      clear yN b h2;go_wp2_with fail;go_ret;exact⟨by rw[a.o];try rfl,rfl⟩
    .have a:=qh (YX hlt hl2 d.o);have b1:((s[n].toNat:Int) != 39)=false:=by simp;omega
     clear yN b;go_wp2_with fail;go_ret;exact⟨by rw[a.o];try rfl,rfl⟩
   .have a:=qh (VB hlt (λ e=>yN ((toNat_eq s[n] 39 (by decide)).1 e)) d.o);have b1:((s[n].toNat:Int) != 39)=true:=by simp;omega
    clear yN;go_wp2_with fail
    go_round
    case rel=>exact⟨n+1,j.o,by go_num,a⟩
    case measure =>
     have:=j.o;simp[intOf];omega
  .have a:=qh (YY hlt d.o);have f:n=s.size:=by omega
   go_wp2_with fail;go_ret;exact⟨by rw[a.o,f];try rfl,rfl⟩
theorem vO (s:ByteArray) (i:Nat):(s.extract i s.size).data.toList=s.data.toList.drop i:=by
 rw[bl];exact bm (by rw[bg,bd];exact a6 _)
theorem CU:∀ r:List UInt8,bb r 125=if (125:UInt8)∈r then ((mr r:Nat):Int) - 1 else -1
 | []=>by simp[bb]
 | b :: l=>by
  rw[bb,mr];by_cases hb:b=125
  .subst hb;rw[if_pos (by decide),if_pos (bn ..),if_pos rfl];rfl
  .have c:=CU l;rw[if_neg (by simpa using hb),if_neg hb,c];by_cases hm:(125:UInt8)∈l
   .have d:1<=mr l:=by
     cases l with
     | nil=>cases hm
     | cons a l=>rw[mr];split <;> omega
    rw[if_pos hm,if_pos (bo _ hm),if_neg (by simp;omega)];omega
   .rw[if_neg hm,if_pos (by decide),if_neg (λ h=>by
     rcases List.mem_cons.1 h with e | e
     .exact hb e.symm
     .exact hm e)]
theorem FM:∀ {r:List UInt8},(125:UInt8) ∉ r->mr r=r.length
 | [],_=>rfl
 | b :: l,h=>by
  rw[mr,if_neg (λ e=>h (by rw[e];exact bn ..)),FM (λ e=>h (bo _ e)),bj]
theorem JY (a b c:UInt8) (r:List UInt8):a7 (c :: r) [a,b]=(decide (c=a) && (match r with
  | d :: _=>decide (d=b)
  | []=>false)):=by
 unfold a7;cases r with
 | nil=>simp[bp]
 | cons d r =>
  have h:∀ x y:UInt8,(x == y)=decide (y=x):=λ x y=>by
   by_cases e:y=x
   .subst e;simp
   .rw[decide_eq_false e];simpa using λ h=>e h.symm
  simp[bp,h]
theorem Y1 (c:UInt8) (r:List UInt8):qm c r=if (a7 (c :: r) [60,62] || a7 (c :: r) [60,61] || a7 (c :: r) [62,61])=true then 2 else 1:=by
 rw[JY,JY,JY];cases r with
 | nil=>simp[qm]
 | cons d r =>
  unfold qm Qk;dsimp only;congr 1;by_cases h1:c=60 <;> by_cases h2:c=62 <;> by_cases h3:d=62 <;> by_cases h4:d=61 <;> simp_all
theorem amR (w:World):(a9 373 (.agg #[.string ⟨#[60,62]⟩,.string ⟨#[60,61]⟩,.string ⟨#[62,61]⟩]) (.int .i64 0)).run lM w = .ok (.string ⟨#[60,62]⟩) w:=by simp[a9,run_underlying underlying373,go_sem]
theorem amS (w:World):(a9 373 (.agg #[.string ⟨#[60,62]⟩,.string ⟨#[60,61]⟩,.string ⟨#[62,61]⟩]) (.int .i64 1)).run lM w = .ok (.string ⟨#[60,61]⟩) w:=by simp[a9,run_underlying underlying373,go_sem]
theorem amT (w:World):(a9 373 (.agg #[.string ⟨#[60,62]⟩,.string ⟨#[60,61]⟩,.string ⟨#[62,61]⟩]) (.int .i64 2)).run lM w = .ok (.string ⟨#[62,61]⟩) w:=by simp[a9,run_underlying underlying373,go_sem]
theorem CV (g:Nat) (s:ByteArray) (i:Nat) (w:World) (G:w.cell? ⟨g,0,none⟩=some (a1 s)) (L:i<s.size) (F:s.size<=4000) :
  E5 269 #[a3 (some ⟨g,0,none⟩),aZ a0 (i:Nat)] w (aZ a0 ((i+dh (s.data.toList.drop i):Nat):Int)):=by
 obtain⟨K,c⟩:=af (i+dh (s.data.toList.drop i));rw[c];have n:=lT L;obtain⟨r,p⟩:=af (s.data.toList.drop (i+1));rw[p] at n;rw[n,dh] at c;have U:(0:Int)<=(i:Int):=by omega
 have M:(i:Int)<(s.size:Int):=by omega
 obtain⟨b1,f⟩:=af (rW s[i]);obtain⟨b2,j⟩:=af (fQ s[i]);have t:=qh (show Calls lM 55 #[.int .u8 (s[i].toNat:Nat)] w λ e d=>e = a5 (a4 b1)/\w=d from by
  exact (nC s[i] w).mono λ e d ⟨H,J⟩=>⟨H.trans (congrArg (λ x=>a8 (a4 x)) f),J⟩)
 have q:=qh (show Calls lM 284 #[.int .u8 (s[i].toNat:Nat)] w λ e d=>e = a5 (a4 b2)/\w=d from by
  exact (jc s[i] w).mono λ e d ⟨H,J⟩=>⟨H.trans (congrArg (λ x=>a8 (a4 x)) j),J⟩)
 rw[f,j] at c;cases b1;rotate_left
 .rw[if_pos rfl] at c;have b:=qh (show ((i:Nat):Int)+((bQ gp (s.data.toList.drop i):Nat):Int)=(K:Nat) by rw[n,bQ,YQ f,if_pos rfl];omega);clear f j c n p;go_enter func269,ntmps269;go_wp2_with (first | (go_at_call 55;refine t.o.mono ?_;rintro e a ⟨rfl,rfl⟩) | (go_at_call 284;refine q.o.mono ?_;rintro e a ⟨rfl,rfl⟩) | (go_at_call 283;refine (Vz g s (i) _ G (by omega) F).mono ?_;rintro e a ⟨rfl,rfl⟩));go_ret;exact⟨aj b.o,rfl⟩
 rw[if_neg (by decide)] at c;cases b2;rotate_left
 .rw[if_pos rfl] at c;have b:=qh (show ((i:Nat):Int)+((bQ uA (s.data.toList.drop i):Nat):Int)=(K:Nat) by rw[n,bQ,show uA s[i]=true by unfold uA;rw[j];rfl,if_pos rfl];omega);clear f j c n p;go_enter func269,ntmps269;go_wp2_with (first | (go_at_call 55;refine t.o.mono ?_;rintro e a ⟨rfl,rfl⟩) | (go_at_call 284;refine q.o.mono ?_;rintro e a ⟨rfl,rfl⟩) | (go_at_call 283;refine (QO g s (i) _ G (by omega) F).mono ?_;rintro e a ⟨rfl,rfl⟩));go_ret;exact⟨aj b.o,rfl⟩
 rw[if_neg (by decide)] at c;by_cases h64:s[i]=64
 .rw[if_pos h64] at c;have T:((s[i].toNat:Int) == 64)=true:=by simp;have:=(toNat_eq s[i] 64 (by decide)).1 h64;omega
  have b:=qh (show ((i:Nat):Int)+1+((bQ xI (s.data.toList.drop (i+1)):Nat):Int)=(K:Nat) by rw[p];omega);clear f j c n p h64;go_enter func269,ntmps269;go_wp2_with (first | (go_at_call 55;refine t.o.mono ?_;rintro e a ⟨rfl,rfl⟩) | (go_at_call 284;refine q.o.mono ?_;rintro e a ⟨rfl,rfl⟩) | (go_at_call 283;refine (VA g s (i+1) _ G (by omega) F).mono ?_;rintro e a ⟨rfl,rfl⟩));go_ret;exact⟨aj b.o,rfl⟩
 rw[if_neg h64] at c;by_cases h35:s[i]=35
 .rw[if_pos h35] at c;have V:((s[i].toNat:Int) == 35)=true:=by simp;have:=(toNat_eq s[i] 35 (by decide)).1 h35;omega
  have y:((s[i].toNat:Int) == 64)=false:=by simp;exact λ e=>h64 ((toNat_eq s[i] 64 (by decide)).2 (by omega))
  have b:=qh (show ((i:Nat):Int)+1+((bQ fQ (s.data.toList.drop (i+1)):Nat):Int)=(K:Nat) by rw[p];omega);clear f j c n p h64 h35;go_enter func269,ntmps269;go_wp2_with (first | (go_at_call 55;refine t.o.mono ?_;rintro e a ⟨rfl,rfl⟩) | (go_at_call 284;refine q.o.mono ?_;rintro e a ⟨rfl,rfl⟩) | (go_at_call 283;refine (YU g s (i+1) _ G (by omega) F).mono ?_;rintro e a ⟨rfl,rfl⟩));go_ret;exact⟨aj b.o,rfl⟩
 rw[if_neg h35] at c;by_cases yN:s[i]=39
 .rw[if_pos yN] at c;have W:((s[i].toNat:Int) == 39)=true:=by simp;have:=(toNat_eq s[i] 39 (by decide)).1 yN;omega
  have y:((s[i].toNat:Int) == 64)=false:=by simp;exact λ e=>h64 ((toNat_eq s[i] 64 (by decide)).2 (by omega))
  have E:((s[i].toNat:Int) == 35)=false:=by simp;exact λ e=>h35 ((toNat_eq s[i] 35 (by decide)).2 (by omega))
  have b:=qh (show ((i:Nat):Int)+1+((dM (s.data.toList.drop (i+1)):Nat):Int)=(K:Nat) by rw[p];omega);clear f j c n p h64 h35 yN;go_enter func269,ntmps269;go_wp2_with (first | (go_at_call 55;refine t.o.mono ?_;rintro e a ⟨rfl,rfl⟩) | (go_at_call 284;refine q.o.mono ?_;rintro e a ⟨rfl,rfl⟩) | (go_at_call 287;refine (QP g s i _ G L F).mono ?_;rintro e a ⟨rfl,rfl⟩));go_ret;exact⟨aj b.o,rfl⟩
 rw[if_neg yN] at c;by_cases kQ:s[i]=123
 .rw[if_pos kQ] at c;have X:((s[i].toNat:Int) == 123)=true:=by simp;have:=(toNat_eq s[i] 123 (by decide)).1 kQ;omega
  have y:((s[i].toNat:Int) == 64)=false:=by simp;exact λ e=>h64 ((toNat_eq s[i] 64 (by decide)).2 (by omega))
  have E:((s[i].toNat:Int) == 35)=false:=by simp;exact λ e=>h35 ((toNat_eq s[i] 35 (by decide)).2 (by omega))
  have I:((s[i].toNat:Int) == 39)=false:=by simp;exact λ e=>yN ((toNat_eq s[i] 39 (by decide)).2 (by omega))
  have u:=qh (show ∀ w',Calls lM 288 #[a1 (s.extract i s.size),.int .u8 125] w' λ e d=>e = a5 (aZ a0 (bb (s.data.toList.drop i) 125))/\d=w' from λ w'=>by
   have h:=Tryz.strings_IndexByte (s.extract i s.size) 125 w'
   rwa [vO] at h)
  have o:bb (s.data.toList.drop i) 125=if (125:UInt8)∈r then ((mr r:Nat):Int) else -1:=by
   rw[n,CU,kQ];have v:((125:UInt8)∈(123:UInt8) :: r) ↔ (125:UInt8)∈r:=by simp
   by_cases h:(125:UInt8)∈r
   .rw[if_pos (v.2 h),if_pos h,mr,if_neg (by decide)];omega
   .rw[if_neg (λ e=>h (v.1 e)),if_neg h]
  have D:r.length+(i+1)=s.size:=by rw[<- p,bg,bd];show s.size - (i+1)+(i+1)=_;omega
  have A:=EH r;by_cases v:(125:UInt8)∈r
  .rw[if_pos v] at o;rw[o] at u;obtain⟨N,O⟩:=af (mr r);rw[O] at u c A;have b:=qh (show ((i:Nat):Int)+(N:Nat)+1=(K:Nat) by omega);have Y:N<=4000:=by omega
   clear f j c n p h64 h35 yN kQ v o O A D;go_enter func269,ntmps269;go_wp2_with (first | (go_at_call 55;refine t.o.mono ?_;rintro e a ⟨rfl,rfl⟩) | (go_at_call 284;refine q.o.mono ?_;rintro e a ⟨rfl,rfl⟩) | (go_at_call 288;refine (u.o _).mono ?_;rintro e a ⟨rfl,rfl⟩));go_ret;exact⟨aj b.o,rfl⟩
  .rw[if_neg v] at o;rw[o] at u;have b:=qh (show ((s.size:Nat):Int)=(K:Nat) by rw[FM v] at c;omega);clear f j c n p h64 h35 yN kQ v o A D;go_enter func269,ntmps269;go_wp2_with (first | (go_at_call 55;refine t.o.mono ?_;rintro e a ⟨rfl,rfl⟩) | (go_at_call 284;refine q.o.mono ?_;rintro e a ⟨rfl,rfl⟩) | (go_at_call 288;refine (u.o _).mono ?_;rintro e a ⟨rfl,rfl⟩));go_ret;exact⟨aj b.o,rfl⟩
 rw[if_neg kQ] at c;have y:((s[i].toNat:Int) == 64)=false:=by simp;exact λ e=>h64 ((toNat_eq s[i] 64 (by decide)).2 (by omega))
 have E:((s[i].toNat:Int) == 35)=false:=by simp;exact λ e=>h35 ((toNat_eq s[i] 35 (by decide)).2 (by omega))
 have I:((s[i].toNat:Int) == 39)=false:=by simp;exact λ e=>yN ((toNat_eq s[i] 39 (by decide)).2 (by omega))
 have S:((s[i].toNat:Int) == 123)=false:=by simp;exact λ e=>kQ ((toNat_eq s[i] 123 (by decide)).2 (by omega))
 rw[Y1] at c;obtain⟨Q,B⟩:=af (a7 (s[i] :: r) [60,62]);have m:=qh (show ∀ w',Calls lM 58 #[a1 (s.extract i s.size),a1 ⟨#[60,62]⟩] w' λ e d=>e = a5 (a4 Q)/\d=w' from λ w'=>by
  have h:=Tryz.strings_HasPrefix (s.extract i s.size) ⟨#[60,62]⟩ w';rw[vO,n] at h
  rwa [B] at h)
 obtain⟨P,z⟩:=af (a7 (s[i] :: r) [60,61]);have k:=qh (show ∀ w',Calls lM 58 #[a1 (s.extract i s.size),a1 ⟨#[60,61]⟩] w' λ e d=>e = a5 (a4 P)/\d=w' from λ w'=>by
  have h:=Tryz.strings_HasPrefix (s.extract i s.size) ⟨#[60,61]⟩ w';rw[vO,n] at h
  rwa [z] at h)
 obtain⟨R,C⟩:=af (a7 (s[i] :: r) [62,61]);have l:=qh (show ∀ w',Calls lM 58 #[a1 (s.extract i s.size),a1 ⟨#[62,61]⟩] w' λ e d=>e = a5 (a4 R)/\d=w' from λ w'=>by
  have h:=Tryz.strings_HasPrefix (s.extract i s.size) ⟨#[62,61]⟩ w';rw[vO,n] at h
  rwa [C] at h)
 have X0:=amR;have X1:=amS;have Z:=amT;rw[B,z,C] at c;clear f j n p h64 h35 yN kQ B z C;cases Q;rotate_left
 .have b:=qh (show ((i:Nat):Int)+2=(K:Nat) by have h:=(show i+2=K by simpa using c);omega);clear c;go_enter func269,ntmps269;go_wp2_with (first | (go_at_call 55;refine t.o.mono ?_;rintro e a ⟨rfl,rfl⟩) | (go_at_call 284;refine q.o.mono ?_;rintro e a ⟨rfl,rfl⟩) | fail);refine wp_loop_rounds 4 ?_
  (rw[rounds_succ];go_wp2_with (first | (go_at_call 58;refine (m.o _).mono ?_;rintro e a ⟨rfl,rfl⟩) | (go_at_call 58;refine (k.o _).mono ?_;rintro e a ⟨rfl,rfl⟩) | (go_at_call 58;refine (l.o _).mono ?_;rintro e a ⟨rfl,rfl⟩)))
  go_ret;exact⟨aj b.o,rfl⟩
 cases P;rotate_left
 .have b:=qh (show ((i:Nat):Int)+2=(K:Nat) by have h:=(show i+2=K by simpa using c);omega);clear c;go_enter func269,ntmps269;go_wp2_with (first | (go_at_call 55;refine t.o.mono ?_;rintro e a ⟨rfl,rfl⟩) | (go_at_call 284;refine q.o.mono ?_;rintro e a ⟨rfl,rfl⟩) | fail);refine wp_loop_rounds 4 ?_
  (rw[rounds_succ];go_wp2_with (first | (go_at_call 58;refine (m.o _).mono ?_;rintro e a ⟨rfl,rfl⟩) | (go_at_call 58;refine (k.o _).mono ?_;rintro e a ⟨rfl,rfl⟩) | (go_at_call 58;refine (l.o _).mono ?_;rintro e a ⟨rfl,rfl⟩)))
  (rw[rounds_succ];go_wp2_with (first | (go_at_call 58;refine (m.o _).mono ?_;rintro e a ⟨rfl,rfl⟩) | (go_at_call 58;refine (k.o _).mono ?_;rintro e a ⟨rfl,rfl⟩) | (go_at_call 58;refine (l.o _).mono ?_;rintro e a ⟨rfl,rfl⟩)))
  go_ret;exact⟨aj b.o,rfl⟩
 cases R;rotate_left
 .have b:=qh (show ((i:Nat):Int)+2=(K:Nat) by have h:=(show i+2=K by simpa using c);omega);clear c;go_enter func269,ntmps269;go_wp2_with (first | (go_at_call 55;refine t.o.mono ?_;rintro e a ⟨rfl,rfl⟩) | (go_at_call 284;refine q.o.mono ?_;rintro e a ⟨rfl,rfl⟩) | fail);refine wp_loop_rounds 4 ?_
  (rw[rounds_succ];go_wp2_with (first | (go_at_call 58;refine (m.o _).mono ?_;rintro e a ⟨rfl,rfl⟩) | (go_at_call 58;refine (k.o _).mono ?_;rintro e a ⟨rfl,rfl⟩) | (go_at_call 58;refine (l.o _).mono ?_;rintro e a ⟨rfl,rfl⟩)))
  (rw[rounds_succ];go_wp2_with (first | (go_at_call 58;refine (m.o _).mono ?_;rintro e a ⟨rfl,rfl⟩) | (go_at_call 58;refine (k.o _).mono ?_;rintro e a ⟨rfl,rfl⟩) | (go_at_call 58;refine (l.o _).mono ?_;rintro e a ⟨rfl,rfl⟩)))
  (rw[rounds_succ];go_wp2_with (first | (go_at_call 58;refine (m.o _).mono ?_;rintro e a ⟨rfl,rfl⟩) | (go_at_call 58;refine (k.o _).mono ?_;rintro e a ⟨rfl,rfl⟩) | (go_at_call 58;refine (l.o _).mono ?_;rintro e a ⟨rfl,rfl⟩)))
  go_ret;exact⟨aj b.o,rfl⟩
 have b:=qh (show ((i:Nat):Int)+1=(K:Nat) by have h:=(show i+1=K by simpa using c);omega);clear c;go_enter func269,ntmps269;go_wp2_with (first | (go_at_call 55;refine t.o.mono ?_;rintro e a ⟨rfl,rfl⟩) | (go_at_call 284;refine q.o.mono ?_;rintro e a ⟨rfl,rfl⟩) | fail);refine wp_loop_rounds 4 ?_
 (rw[rounds_succ];go_wp2_with (first | (go_at_call 58;refine (m.o _).mono ?_;rintro e a ⟨rfl,rfl⟩) | (go_at_call 58;refine (k.o _).mono ?_;rintro e a ⟨rfl,rfl⟩) | (go_at_call 58;refine (l.o _).mono ?_;rintro e a ⟨rfl,rfl⟩)))
 (rw[rounds_succ];go_wp2_with (first | (go_at_call 58;refine (m.o _).mono ?_;rintro e a ⟨rfl,rfl⟩) | (go_at_call 58;refine (k.o _).mono ?_;rintro e a ⟨rfl,rfl⟩) | (go_at_call 58;refine (l.o _).mono ?_;rintro e a ⟨rfl,rfl⟩)))
 (rw[rounds_succ];go_wp2_with (first | (go_at_call 58;refine (m.o _).mono ?_;rintro e a ⟨rfl,rfl⟩) | (go_at_call 58;refine (k.o _).mono ?_;rintro e a ⟨rfl,rfl⟩) | (go_at_call 58;refine (l.o _).mono ?_;rintro e a ⟨rfl,rfl⟩)))
 (rw[rounds_succ];go_wp2_with (first | (go_at_call 58;refine (m.o _).mono ?_;rintro e a ⟨rfl,rfl⟩) | (go_at_call 58;refine (k.o _).mono ?_;rintro e a ⟨rfl,rfl⟩) | (go_at_call 58;refine (l.o _).mono ?_;rintro e a ⟨rfl,rfl⟩)))
 go_ret;exact⟨aj b.o,rfl⟩
open Dig
theorem Tt (s p:ByteArray) (w:World) (c:s.size<=2000000) :
  Calls lM 331 #[a1 s,a1 p] w λ e w'=>(∃ t:ByteArray,e = a5 (a1 t)/\t.data.toList=Lib.trimSuffix s.data.toList p.data.toList)/\w=w':=
 (Tryz.strings_TrimSuffix s p w (by omega)).mono λ _ _ ⟨a,b⟩=>⟨⟨_,a,rfl⟩,b.symm⟩
theorem oG {w:World} {B size n g i:Nat} {e:TypeId} {v:Value} {xs:List Value} (h:w.ownsRow B e size v n xs) (o:g<B) (u:Value):(w.setCell ⟨g,i,none⟩ u).ownsRow B e size v n xs:=by
 refine⟨h.1,h.2.imp id ?_⟩;rintro ⟨b,c,a,l,j,m,e3,d,f,k⟩;exact⟨b,c,a,l,j,by rw[Below.heap_setCell w ⟨g,i,none⟩ u b (by show b≠g;omega)];exact m,e3,d,f,k⟩
structure amU (e:Ending) (w:World) (B:Nat) (s:List UInt8):Prop where
 ex:∃ A c l ok,e = a5 (.tuple #[.agg #[aZ a0 5,aZ a0 0,a1 ⟨#[]⟩,a2 A (List.length (α:=Int) l) c],a4 ok])/\Reads w w.heap.size 1 A l.length (bK a0 l)/\(∀ ad,A=some ad->B<=ad.block)/\l.length<=2000001 /\
  (ok=true->jh s=some l)/\(ok=false->jh s=none)
theorem Oc (p:List UInt8) (r:List (List UInt8)) (a:Nat) (b:Bool) (h:dD (Lib.trimPrefix p [35])=(a,b)):mi (p :: r)=if b then (mi r).map ((a:Int) :: ·) else none:=by
 rw[mi,h]
theorem Oe (o:Option (List Int)) (xs:List Int) (a:Int):(o.map (a :: ·)).map (xs ++ ·)=o.map ((xs ++ [a]) ++ ·):=by cases o <;> simp
theorem Og (s:ByteArray) (w:World) (hs:s.size<=2000000) (hm:Mx w) :
  Calls lM 333 #[a1 s] w λ e w'=>amU e w' w.heap.size s.data.toList/\DD w w':=by
 have HM:=qh hm;clear hm;obtain⟨i0,ap,aw,an,ak⟩:=info_parts JK;go_enter func333,ntmps333;go_wp2_with fail;obtain⟨W,N⟩:=aG (((w.alloc (.cells #[aZ a0 0,aZ a0 0,a1 ⟨#[]⟩,a2 none 0 0] 65 (0,0))).alloc (.cells #[aZ a0 5,aZ a0 0,a1 ⟨#[]⟩,a2 none 0 0] 65 (0,0))));have f:DD w W:=by rw[N];exact (((Below.refl _ w).alloc (a6 _) _).alloc (by simp) _)
 have B0:ah W (w.heap.size) 65 #[aZ a0 0,aZ a0 0,a1 ⟨#[]⟩,a2 none 0 0]:=by
  rw[N];have:=ah.new w 65 #[aZ a0 0,aZ a0 0,a1 ⟨#[]⟩,a2 none 0 0];have:=this.alloc (.cells #[aZ a0 5,aZ a0 0,a1 ⟨#[]⟩,a2 none 0 0] 65 (0,0));exact this
 have B1:ah W (w.heap.size+1) 65 #[aZ a0 5,aZ a0 0,a1 ⟨#[]⟩,a2 none 0 0]:=by
  rw[N];have:=ah.new (w.alloc (.cells #[aZ a0 0,aZ a0 0,a1 ⟨#[]⟩,a2 none 0 0] 65 (0,0))) 65 #[aZ a0 5,aZ a0 0,a1 ⟨#[]⟩,a2 none 0 0]
  rwa [World.size_alloc] at this
 have ar:W.heap.size=w.heap.size+2:=by rw[N];simp
 rw[<- N];clear N ar;refine (JS s ⟨#[123]⟩ W).mono ?_;rintro e w1 ⟨⟨t1,rfl,D⟩,rfl⟩;have aR:t1.size<=s.size:=by rw[nI D];exact Lib.trimPrefix_le _ _
 have ag:=qh D;clear D;go_wp2_with fail;refine (Tt t1 ⟨#[125]⟩ W (by omega)).mono ?_;rintro e w1 ⟨⟨t,rfl,ht⟩,rfl⟩;have aM:t.size<=t1.size:=by rw[nI ht];exact Lib.trimSuffix_le _ _
 rw[ag.o] at ht;have HT:=qh (show t.data.toList=EE s.data.toList from ht);clear ht ag;obtain⟨fK,lD,gJ,lF,jC,rD,jD,rE⟩:=ah.z4 B0;obtain⟨R,xq,O,M⟩:=ah.c4 B1;by_cases h0:t=⟨#[]⟩
 .have P:=qh (show jh s.data.toList=some [] by unfold jh;rw[<- HT.o,h0];rfl);subst h0;go_wp2;obtain⟨W9,x,B9,dN⟩:=dL B0 f (aZ a0 5) (aZ a0 0) (a1 ⟨#[]⟩) (a2 none 0 0);rw[<- x];clear x;obtain⟨U,o,r,n⟩:=ah.c4 B9;refine bodyPost_ret (v:=.tuple #[.agg #[aZ a0 5,aZ a0 0,a1 ⟨#[]⟩,a2 none 0 0],a4 true]) (by simp[results,results333,go_sem,U,o,r,n]) rfl ⟨⟨⟨none,0,[],true,rfl,Reads.none_,(λ _ h=>by cases h),by simp,λ _=>P.o,λ h=>by cases h⟩⟩,dN⟩
 have F:t.data.toList≠[]:=λ e=>h0 (uG e);have se:t.toList.isEmpty=false:=by rw[ByteArray.toList_eq];simpa using F
 have P:=qh (show jh s.data.toList=mi (bh t.data.toList [44]) by unfold jh;rw[<- HT.o,if_neg F]);clear F h0 HT fK lD gJ lF jC rD jD rE R xq O M;go_wp2_with fail;refine (IK t 44 W (by omega) (HM.o.below f)).mono ?_;rintro e w1 ⟨ps,rfl,B,ac,aq⟩;have y:DD W w1:=B▸(Below.refl _ W).alloc (a6 _) _;have Y:w1.heap.size=W.heap.size+1:=by rw[B];simp
 have B2:ah w1 W.heap.size 9 (ps.map be).toArray:=B▸ah.new W _ _;rw[<- ac] at P;have X:=B1.lt;have B0:=B0.below y B0.lt;have B1:=B1.below y B1.lt;have f:=f.trans (y.mono f.size);have aE:ps.length<=2000001:=by omega
 have ay:W.heap.size<w1.heap.size:=by omega
 have T:=qh B0;have Q:=qh B1;have ab:=qh B2;have b:w.heap.size<w1.heap.size:=B0.lt;have am:w.heap.size+1<w1.heap.size:=B1.lt;have aV:w.heap.size+1<W.heap.size:=X;clear ac B y aq Y B0 B1 B2 X;go_wp2;go_loopw [19] (λ i wr=>∃ (k:Nat) (v:Value) (xs:List Int),k<=ps.length/\i = aZ a0 k/\Hid (ah wr w.heap.size 65 #[aZ a0 0,aZ a0 0,a1 ⟨#[]⟩,a2 none 0 0])/\Hid (ah wr (w.heap.size+1) 65 #[aZ a0 5,aZ a0 0,a1 ⟨#[]⟩,v])/\Hid (ah wr W.heap.size 9 (ps.map be).toArray) /\
   Hid (wr.ownsRow w1.heap.size 3 1 v k (bK a0 xs))/\Hid (mi (ps.map (·.data.toList))=(mi ((ps.map (·.data.toList)).drop k)).map (xs ++ ·))/\DD w wr/\w1.heap.size<=wr.heap.size) (λ i _=>ps.length - (intOf i).toNat)
 case atStart=>exact⟨0,_,[],Nat.zero_le _,rfl,T,Q,ab,qh (World.ownsRow_nil _ _ _ _),qh (by simp),f,a6 _⟩
 case round =>
  obtain⟨k,v,xs,hk,rfl,B0,B1,B2,HO,L,E,mg⟩:=hrel;clear T Q ab;obtain⟨ae,A,c,rfl,-⟩:=vw HO.o;have V:=qh ae;clear ae;by_cases hlt:k<ps.length
  .obtain⟨p,hp⟩:=af (ps[k]);have pc:wr.cell? ⟨W.heap.size,k,none⟩=some (a1 p):=by rw[B2.o.cell k];simp[hlt,hp]
   have HD:=qh (show (ps.map (·.data.toList)).drop k=p.data.toList :: (ps.map (·.data.toList)).drop (k+1) by
    rw[bf (by simpa using hlt),List.getElem_map,hp])
   clear hp;go_wp2_with fail;refine (JS p ⟨#[35]⟩ wr).mono ?_;rintro e w2 ⟨⟨q,rfl,hq⟩,rfl⟩;obtain⟨a,ok,aa,Z,ha⟩:=jJ q.data.toList;have S:=qh Z;have UQ:=qh (Oc p.data.toList ((ps.map (·.data.toList)).drop (k+1)) a ok (by rw[<- aa,hq]));clear hq aa Z pc;go_wp2_with fail;refine (mM q wr).mono ?_;rw[S.o];rintro e w2 ⟨rfl,rfl⟩;clear S;cases ok
   .have HF:=qh (show jh s.data.toList=none by
     rw[P.o,L.o,HD.o,UQ.o];rfl)
    have G:xs.length<=2000001:=by have:=V.o;omega
    have B0:=B0.o;have B1:=B1.o;obtain⟨fK,lD,gJ,lF,jC,rD,jD,rE⟩:=ah.z4 B0;obtain⟨R,J,xq,H,O,I,M,z⟩:=ah.z4 B1;clear L HD UQ;go_wp2;obtain⟨W9,x,B9,dN⟩:=dL B0 E (aZ a0 5) (aZ a0 0) (a1 ⟨#[]⟩) (a2 A xs.length c);have m:=qh (x▸oG (oG (oG (oG HO.o b _) b _) b _) b _:W9.ownsRow w1.heap.size 3 1 (a2 A xs.length c) k (bK a0 xs));rw[<- x];clear x;obtain⟨U,o,r,n⟩:=ah.c4 B9;refine bodyPost_ret (v:=.tuple #[.agg #[aZ a0 5,aZ a0 0,a1 ⟨#[]⟩,a2 A xs.length c],a4 false]) (by simp[results,results333,go_sem,U,o,r,n]) rfl ⟨⟨⟨A,c,xs,false,rfl,(oL m.o).1,(λ ad h=>bq (br b ((oL m.o).2 ad h))),G,(λ h=>by cases h),λ _=>HF.o⟩⟩,dN⟩
   .have B0:=B0.o;have B1:=B1.o;have B2:=B2.o;have C:∀ g,Value.ownBlock (a2 A xs.length c)=some g->w1.heap.size<=g:=λ g hg=>(HO.o.lt g hg).1;have Nv:=qh C;have ax:=qh (show mi (ps.map (·.data.toList))=(mi ((ps.map (·.data.toList)).drop (k+1))).map ((xs ++ [(a:Int)]) ++ ·) by
     rw[L.o,HD.o,UQ.o,if_pos rfl,Oe])
    clear C L HD UQ;obtain⟨R,J,xq,H,O,I,M,z⟩:=ah.z4 B1;go_wp2_with (at_builtin;refine wpList_append_own _ rfl _ _ 54 rfl w1.heap.size 3 i0 (.int .i64 0) 1 8 underlying54 ap aw an ak rfl (by decide) _ _ _ rfl (HO.o.alloc _) ⟨wr.heap.size,0,none⟩ 1 1 [.int .i64 (a:Nat)] rfl rfl ?c1 ?c2 ?c3 ?c4 ?c5 ?_)
    case c1=>intro j u hj;cases j <;> simp_all[go_sem]
    case c2=>intro u hu;simp only[List.mem_singleton] at hu;subst hu;rfl
    case c3=>unfold maxLen;omega
    case c4=>omega
    case c5=>simp;omega
    intro v2 w3 d l _;have aL:wr.heap.size+1<=w3.heap.size:=by have:=l.size;simpa using this
    have av:ah w3 w.heap.size 65 #[aZ a0 0,aZ a0 0,a1 ⟨#[]⟩,a2 none 0 0]:=(B0.alloc _).grown l (λ e=>by have:=Nv.o _ e.symm;omega);have CW:ah w3 (w.heap.size+1) 65 #[aZ a0 5,aZ a0 0,a1 ⟨#[]⟩,a2 A xs.length c]:=(B1.alloc _).grown l (λ e=>by have:=Nv.o _ e.symm;omega);have DW:ah w3 W.heap.size 9 (ps.map be).toArray:=(B2.alloc _).grown l (λ e=>by have:=Nv.o _ e.symm;omega);have al:DD w w3:=(E.alloc (by omega) _).grown l (by simp;omega) (λ g hg=>by have:=Nv.o g hg;omega);have Hg:=qh (show w3.ownsRow w1.heap.size 3 1 v2 (k+1) (bK a0 (xs ++ [(a:Int)])) by rw[Bh];exact d);obtain⟨ao,n',K,rfl⟩:∃ ao n' K,v2 = a2 ao n' K:=by
     rcases d.2 with ⟨hv,_⟩ | ⟨g,K,aD,hv,_⟩
     .exact⟨_,_,_,hv⟩
     .exact⟨_,_,_,hv⟩
    clear d l R J xq H O I M z;have M:w3.cell? ⟨w.heap.size+1,3,none⟩=some (a2 A xs.length c):=CW.cell 3;have z:w3.frozen? ⟨w.heap.size+1,3,none⟩=false:=CW.frozen 3;go_wp2;go_roundw
    case rel=>exact⟨k+1,_,xs ++ [(a:Int)],by omega,by go_num,qh (av.far (p:=⟨w.heap.size+1,3,none⟩) (by show w.heap.size≠w.heap.size+1;omega) _),qh (CW.bP 3 _),qh (DW.far (p:=⟨w.heap.size+1,3,none⟩) (by show W.heap.size≠w.heap.size+1;omega) _),qh (oG Hg.o am _),ax,al.setCell (p:=⟨w.heap.size+1,3,none⟩) (by show w.heap.size<=w.heap.size+1;omega) _,by simp[World.setCell];omega⟩
    case measure=>simp[intOf];omega
  .have HF:=qh (show jh s.data.toList=some xs by
    rw[P.o,L.o,bk (by simp;omega)];simp[mi])
   have G:xs.length<=2000001:=by have:=V.o;omega
   have B0:=B0.o;have B1:=B1.o;obtain⟨fK,lD,gJ,lF,jC,rD,jD,rE⟩:=ah.z4 B0;obtain⟨R,J,xq,H,O,I,M,z⟩:=ah.z4 B1;clear L;go_wp2;obtain⟨W9,x,B9,dN⟩:=dL B0 E (aZ a0 5) (aZ a0 0) (a1 ⟨#[]⟩) (a2 A xs.length c);have m:=qh (x▸oG (oG (oG (oG HO.o b _) b _) b _) b _:W9.ownsRow w1.heap.size 3 1 (a2 A xs.length c) k (bK a0 xs));rw[<- x];clear x;obtain⟨U,o,r,n⟩:=ah.c4 B9;refine bodyPost_ret (v:=.tuple #[.agg #[aZ a0 5,aZ a0 0,a1 ⟨#[]⟩,a2 A xs.length c],a4 true]) (by simp[results,results333,go_sem,U,o,r,n]) rfl ⟨⟨⟨A,c,xs,true,rfl,(oL m.o).1,(λ ad h=>bq (br b ((oL m.o).2 ad h))),G,λ _=>HF.o,λ h=>by cases h⟩⟩,dN⟩
theorem yu {l:List UInt8} {a:Nat} (h:dD l=(a,false)):a=0:=by
 unfold dD at h;split at h
 .injection h with h _;exact h.symm
 .split at h
  .injection h with _ h;cases h
  .injection h with h _;exact h.symm
theorem Y2 {y m d:Int} (h:Cal.kK y m d=true):dk y m d=6/\dn y m d=Cal.num y m d:=by unfold dk dn;rw[if_pos h,if_pos h];exact⟨rfl,rfl⟩
theorem aek {y m d:Int} (h:Cal.kK y m d=false):dk y m d=0/\dn y m d=0:=by unfold dk dn;rw[h];exact⟨rfl,rfl⟩
theorem JZ {y m d:Int} (h:y=0\/m=0\/d=0):Cal.kK y m d=false:=by
 rw[Bool.eq_false_iff];intro e;rw[Cal.sH] at e;omega
theorem acN {r:List UInt8} (h:(bh r [45]).length≠3):iU r=none:=by
 unfold iU;split
 .rename_i e;rw[e] at h;exact absurd rfl h
 .rfl
theorem Oh (s:ByteArray) (w:World) (hs:s.size<=2000000) (h1:1<=s.size) (hm:Mx w) :
  CS 334 #[a1 s] w (Hu 6 (iU s.data.toList.tail)):=by
 have HM:=qh hm;clear hm;have HX:=qh (show (s.extract 1 s.size).data.toList=s.data.toList.tail by
  rw[bl,bm (by simp),List.drop_one])
 have Z:(s.extract 1 s.size).size<=2000000:=by rw[ByteArray.size_extract];omega
 go_enter func334,ntmps334;go_wp2_with fail;obtain⟨W,L⟩:=aG ((w.alloc (.cells #[aZ a0 0,aZ a0 0,a1 ⟨#[]⟩,a2 none 0 0] 65 (0,0))));have a:DD w W:=by rw[L];exact ((Below.refl _ w).alloc (a6 _) _)
 have B0:ah W (w.heap.size) 65 #[aZ a0 0,aZ a0 0,a1 ⟨#[]⟩,a2 none 0 0]:=by
  rw[L];have:=ah.new w 65 #[aZ a0 0,aZ a0 0,a1 ⟨#[]⟩,a2 none 0 0];exact this
 have ae:W.heap.size=w.heap.size+1:=by rw[L];simp
 rw[<- L];clear L ae;refine (IK _ 45 W Z (HM.o.below a)).mono ?_;rintro e w1 ⟨ps,rfl,c,q,ad⟩;rw[HX.o] at q;have u:DD W w1:=c▸(Below.refl _ W).alloc (a6 _) _;have B1:ah w1 W.heap.size 9 (ps.map be).toArray:=c▸ah.new W _ _;have g:(bh s.data.toList.tail [45]).length=ps.length:=by rw[<- q];simp
 have R:=qh q;have B0:=B0.below u B0.lt;have a:=a.trans (u.mono a.size);have V:ps.length<=2000001:=by omega
 clear q c u ad;obtain⟨fK,lD,gJ,lF,jC,rD,jD,rE⟩:=ah.z4 B0;by_cases h3:ps.length=3;rotate_left
 .have F:=qh (show Hu 6 (iU s.data.toList.tail) = .tuple #[.agg #[aZ a0 0,aZ a0 0,a1 ⟨#[]⟩,a2 none 0 0],a4 false] by rw[acN (by rw[g];exact h3)];rfl);have an:(((ps.length:Nat):Int) != 3)=true:=by simp;omega
  clear g h3;go_wp2;obtain⟨W9,t,S,T⟩:=dL B0 a (aZ a0 0) (aZ a0 0) (a1 ⟨#[]⟩) (a2 none 0 0);rw[<- t];clear t;obtain⟨J,j,l,i⟩:=ah.c4 S;refine bodyPost_ret (v:=.tuple #[.agg #[aZ a0 0,aZ a0 0,a1 ⟨#[]⟩,a2 none 0 0],a4 false]) (by simp[results,results334,go_sem,J,j,l,i]) rfl ⟨dC F.o.symm,T⟩
 obtain⟨E,D,C,rfl⟩:∃ E D C,ps = [E,D,C]:=by
  rcases ps with _ | ⟨E,_ | ⟨D,_ | ⟨C,_ | ⟨p4,r⟩⟩⟩⟩ <;> simp at h3
  exact⟨_,_,_,rfl⟩
 have U1:w1.cell? ⟨W.heap.size,0,none⟩=some (a1 E):=B1.cell 0;have ac:w1.cell? ⟨W.heap.size,1,none⟩=some (a1 D):=B1.cell 1;have Y:w1.cell? ⟨W.heap.size,2,none⟩=some (a1 C):=B1.cell 2;obtain⟨y,f,c,P,ao⟩:=jJ E.data.toList;obtain⟨m,k,B,M,ak⟩:=jJ D.data.toList;obtain⟨d,n,A,I,am⟩:=jJ C.data.toList;have G:=qh P;have O:=qh M;have Q:=qh I;have HR:=qh (show iU s.data.toList.tail=if f && k && n && Cal.kK y m d then some (Cal.num y m d) else none by
  unfold iU;rw[<- R.o];simp only[List.map_cons,List.map_nil];rw[c,B,A])
 have U:=qh (show (f=false->y=0)/\(k=false->m=0)/\(n=false->d=0) from
  ⟨λ h=>yu (h▸c),λ h=>yu (h▸B),λ h=>yu (h▸A)⟩)
 clear c B A P M I h3 g R V;go_wp2_with fail;refine (mM E w1).mono ?_;rw[G.o];rintro e o ⟨rfl,rfl⟩;go_wp2_with fail;refine (mM D w1).mono ?_;rw[O.o];rintro e o ⟨rfl,rfl⟩;go_wp2_with fail;refine (mM C w1).mono ?_;rw[Q.o];rintro e o ⟨rfl,rfl⟩;clear G O Q U1 ac Y fK lD gJ lF jC rD jD rE;go_wp2_with fail;refine (Yx y m d w1).mono ?_;rintro e o ⟨rfl,z⟩;have B0:=B0.below z B0.lt;have a:=a.trans (z.mono a.size);have ap:=a.size;obtain⟨ok,b⟩:=af (Cal.kK y m d);obtain⟨K,N,hK,hN,hr⟩:∃ K N:Int,dk y m d=K/\dn y m d=N/\((f=true/\k=true/\n=true/\K=6/\Hu 6 (iU s.data.toList.tail) = .tuple #[.agg #[aZ a0 6,aZ a0 N,a1 ⟨#[]⟩,a2 none 0 0],a4 true]) \/
   (K=0/\N=0/\Hu 6 (iU s.data.toList.tail) = .tuple #[.agg #[aZ a0 0,aZ a0 0,a1 ⟨#[]⟩,a2 none 0 0],a4 false])):=by
  refine⟨_,_,rfl,rfl,?_⟩;rw[HR.o];cases ok
  .right;refine⟨(aek b).1,(aek b).2,?_⟩;rw[b,Bool.and_false,if_neg (by simp)];rfl
  .cases f
   .exact absurd (JZ (y:=y) (m:=m) (d:=d) (.inl (by have:=U.o.1 rfl;omega))) (by rw[b];simp)
   .cases k
    .exact absurd (JZ (y:=y) (m:=m) (d:=d) (.inr (.inl (by have:=U.o.2.1 rfl;omega)))) (by rw[b];simp)
    .cases n
     .exact absurd (JZ (y:=y) (m:=m) (d:=d) (.inr (.inr (by have:=U.o.2.2 rfl;omega)))) (by rw[b];simp)
     .left;refine⟨rfl,rfl,rfl,(Y2 b).1,?_⟩;rw[b,(Y2 b).2];rfl
 rw[hK,hN];clear hK hN b z HR U;go_upto_region 8 with (fail);obtain⟨W3,p⟩:=aG (o.alloc (.cells #[aZ a0 K,aZ a0 N,a1 ⟨#[]⟩,a2 none 0 0] 65 (0,0)));have x:DD o W3:=p▸(Below.refl _ o).alloc (a6 _) _;have B3:ah W3 o.heap.size 65 #[aZ a0 K,aZ a0 N,a1 ⟨#[]⟩,a2 none 0 0]:=p▸ah.new o _ _;have al:=B0.lt;have B0:=B0.below x B0.lt;have a:=a.trans (x.mono a.size);rw[<- p];clear p x;obtain⟨fK,lD,gJ,lF,jC,rD,jD,rE⟩:=ah.z4 B0;rcases hr with ⟨rfl,rfl,rfl,rfl,H⟩ | ⟨rfl,rfl,H⟩
 .have F:=qh H;clear H;obtain⟨aa,X,ag,ab⟩:=ah.c4 B3;go_region
  all_goals
   go_wp2;obtain⟨W9,t,S,T⟩:=dL B0 a (aZ a0 6) (aZ a0 N) (a1 ⟨#[]⟩) (a2 none 0 0);rw[<- t];clear t;obtain⟨J,j,l,i⟩:=ah.c4 S;refine bodyPost_ret (v:=.tuple #[.agg #[aZ a0 6,aZ a0 N,a1 ⟨#[]⟩,a2 none 0 0],a4 true]) (by simp[results,results334,go_sem,J,j,l,i]) rfl ⟨dC F.o.symm,T.drew⟩
 .have F:=qh H;clear H;obtain⟨aa,X,ag,ab⟩:=ah.c4 B3;cases f <;> cases k <;> cases n
  all_goals
   go_region
   all_goals
    go_wp2;obtain⟨W9,t,S,T⟩:=dL B0 a (aZ a0 0) (aZ a0 0) (a1 ⟨#[]⟩) (a2 none 0 0);rw[<- t];clear t;obtain⟨J,j,l,i⟩:=ah.c4 S;refine bodyPost_ret (v:=.tuple #[.agg #[aZ a0 0,aZ a0 0,a1 ⟨#[]⟩,a2 none 0 0],a4 false]) (by simp[results,results334,go_sem,J,j,l,i]) rfl ⟨dC F.o.symm,T.drew⟩
end Go.Proofs.YtcnagconagpkcaaGreatDoor
