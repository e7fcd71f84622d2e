/- Lemmas. -/
import Derived.Test.YtcnagconagpkcaaGreatDoorZ14
import Derived.LoopN
import Derived.RegionTactic
set_option maxHeartbeats 4000000
set_option maxRecDepth 100000
open Go.Value renaming int->a4, string->a6, slice->a7, pointer->a8, bool->a9, string->bi
open Go.IntKind renaming i64->a5
open Go.Ending renaming returned->ba, returned->bd
open Go.Lib renaming hasPrefix->bb, indexByte->bg, split->bl, extract_data->bn
open Nat renaming le_refl->bc, le_of_lt->bs, lt_of_lt_of_le->bt
open Go.Instr renaming index->be
open List renaming getD_eq_getElem?_getD->bf, drop_eq_getElem_cons->bj, length_drop->bk, drop_eq_nil_of_le->bm, take_of_length_le->bo, mem_cons_self->bp, mem_cons_of_mem->bq, isPrefixOf->br
open Array renaming length_toList->bh
namespace Go.Proofs.YtcnagconagpkcaaGreatDoor
open Vtx Go.Lib Dig
theorem iH {s:List UInt8} {i:Nat} {t:Tok} {r:List Tok} (h:wordsOf s i=t :: r):dL s i=some t/\r=wordsOf s (t.at_+t.tx.length):=by
 rw[iF] at h;split at h
 .cases h
 .rename_i u a;injection h with h1 h2;subst h1;exact⟨a,h2.symm⟩
theorem drop_cons {s:List UInt8} {j:Nat} (h:j<s.length):s.drop j=s.getD j 0 :: s.drop (j+1):=by
 rw[bj h,bf,List.getElem?_eq_getElem h];rfl
theorem sW {s:List UInt8} {i:Nat} {t:Tok} (h:dL s i=some t):∃ w,t.tx=s.getD t.at_ 0 :: w/\s.getD t.at_ 0≠32:=by
 obtain⟨p,e,n,o,f,b,j⟩:=gq h;obtain⟨m,d⟩:∃ m,dG (s.drop t.at_)=m+1:=⟨dG (s.drop t.at_) - 1,by omega⟩;rw[drop_cons e] at b d;rw[d,List.take_succ_cons] at b;refine⟨_,b,?_⟩
 -- the byte behind the blanks is none
 have key:∀ l:List UInt8,∀ k,k=bZ bM l->k<l.length->l.getD k 0≠32:=by
  intro l
  induction l with
  | nil=>intro k _ h;simp at h
  | cons c r ih =>
   intro k a g;rw[bZ] at a;by_cases hc:c=32
   .subst hc;rw[show bM 32=true from rfl,if_pos rfl] at a;subst a;have:=ih _ rfl (by simpa using g);simpa [bf] using this
   .rw[JR hc,if_neg (by decide)] at a;subst a;simpa [bf] using hc
 have:=key (s.drop i) _ rfl (by rw[bk];omega);rw[bf,List.getElem?_drop,<- f] at this;rw[bf];exact this
theorem Vy {s:List UInt8} {i:Nat} {t:Tok} (h:dL s i=some t):t.touch=(decide (t.at_=i) && decide (0<i) && fC (s.getD (i - 1) 0) && fC (s.getD i 0)):=by
 unfold dL at h;split at h
 .injection h with h;rw[<- h];dsimp only;congr 3;exact decide_eq_decide.2 (by omega)
 .cases h
theorem GZ {s:List UInt8} {i:Nat} {t:Tok} (h:dL s i=some t) {c:UInt8} {w:List UInt8} (e:t.tx=c :: w) (b:fC c=false):t.touch=false:=by
 obtain⟨w',a,-⟩:=sW h;rw[Vy h];by_cases hi:t.at_=i
 .rw[e] at a;injection a with a _;rw[<- hi,<- a,b];simp
 .rw[decide_eq_false hi];rfl
theorem qJ {s:List UInt8} {i:Nat} (h:dL s i=none):wordsOf s i = []:=by rw[iF,h]
theorem LP {s:List UInt8} {i:Nat} (h:i<s.length) (a:s.getD i 0≠32):∃ u,dL s i=some u/\u.at_=i:=by
 have b:bZ bM (s.drop i)=0:=by rw[drop_cons h,bZ,JR a];rfl
 unfold dL;rw[b,Nat.add_zero,if_pos h];exact⟨_,rfl,rfl⟩
theorem acj {s:List UInt8} {i:Nat} {t:Tok} (h:dL s i=some t) (e:t.tx.length=1):Le (t :: wordsOf s (t.at_+t.tx.length))=(decide (t.at_+1<s.length) && gp (s.getD (t.at_+1) 0)):=by
 rw[e];by_cases hl:t.at_+1<s.length
 .rw[decide_eq_true hl,Bool.true_and];cases hu:dL s (t.at_+1) with
  | none =>
   rw[qJ hu];by_cases b:s.getD (t.at_+1) 0=32
   .rw[b];rfl
   .obtain⟨u,a,-⟩:=LP hl b;rw[hu] at a;cases a
  | some u =>
   rw[iF,hu];obtain⟨w,f,b⟩:=sW hu;have g:=(gq hu).1;by_cases ha:u.at_=t.at_+1
   .show (decide (u.at_=t.at_+1) && (match u.tx with | c :: _=>gp c | []=>false))=_;rw[decide_eq_true ha,f,ha];rfl
   .show (decide (u.at_=t.at_+1) && (match u.tx with | c :: _=>gp c | []=>false))=_;rw[decide_eq_false ha,Bool.false_and];by_cases hb:s.getD (t.at_+1) 0=32
    .rw[hb];rfl
    .obtain⟨u2,a,d⟩:=LP hl hb;rw[hu] at a;injection a with a;rw[a] at ha;exact absurd d ha
 .rw[decide_eq_false hl,Bool.false_and];have:dL s (t.at_+1)=none:=by
   cases hu:dL s (t.at_+1) with
   | none=>rfl
   | some u =>
    have:=gq hu;omega
  rw[qJ this];rfl
theorem zI {s:List UInt8} {t:Tok} {j:Nat} (f:j=t.at_+t.tx.length):pR t (wordsOf s j)=(decide (j<s.length) && decide (s.getD j 0=40)):=by
 by_cases hl:j<s.length
 .rw[decide_eq_true hl,Bool.true_and];cases hu:dL s j with
  | none =>
   rw[qJ hu];by_cases b:s.getD j 0=32
   .rw[b];rfl
   .obtain⟨u,a,-⟩:=LP hl b;rw[hu] at a;cases a
  | some u =>
   rw[iF,hu];obtain⟨w,g,b⟩:=sW hu;show (decide (u.tx = [40]) && decide (u.at_=t.at_+t.tx.length))=_;by_cases ha:u.at_=j
   .rw[decide_eq_true (ha.trans f),Bool.and_true];refine decide_eq_decide.2 ?_;rw[ha] at g;constructor
    .intro e;rw[g] at e;injection e
    .intro e;have d:=(gq hu).2.2.2.2.2.1;rw[ha,drop_cons hl,e] at d;have h:dG (40 :: s.drop (j+1))=1:=acg (c:=40) (by decide) (by decide) (by decide) (ae9 (by decide) _);rw[h] at d;exact d
   .rw[show decide (u.at_=t.at_+t.tx.length)=false from decide_eq_false (λ e=>ha (e.trans f.symm)),Bool.and_false];by_cases hb:s.getD j 0=32
    .rw[hb];rfl
    .obtain⟨u2,a,i⟩:=LP hl hb;rw[hu] at a;injection a with a;rw[a] at ha;exact absurd i ha
 .rw[decide_eq_false hl,Bool.false_and];have:dL s j=none:=by
   cases hu:dL s j with
   | none=>rfl
   | some u =>
    have:=gq hu;omega
  rw[qJ this];rfl
end Go.Proofs.YtcnagconagpkcaaGreatDoor
namespace Go.Proofs.YtcnagconagpkcaaGreatDoor
open Go.RowKit Vtx
theorem jE (c:UInt8) (w:World) :
  KG 284 #[.int .u8 (c.toNat:Nat)] w (a9 (gp c)):=by
 go_enter Tryz.func284,Tryz.ntmps284;go_wp2
 all_goals (go_ret;exact⟨au (by unfold gp;rw[Bool.eq_iff_iff];simp;try omega),rfl⟩)
theorem toNat_eq (c:UInt8) (n:Nat) (a:n<256):(c=UInt8.ofNat n) ↔ c.toNat=n:=by
 constructor
 .rintro rfl;simp;omega
 .intro h;apply UInt8.toNat_inj.1;rw[h];simp;omega
theorem Vz (c:UInt8) (w:World) :
  KG 285 #[.int .u8 (c.toNat:Nat)] w (a9 (vO c)):=by
 obtain⟨b,d⟩:=af (gp c);have f:=qh (show vO c=(b || decide (c.toNat=46)) by unfold vO;rw[d,show decide (c=46)=decide (c.toNat=46) from decide_eq_decide.2 (toNat_eq c 46 (by decide))]);have H:=qh (show ∀ w',Calls Tryz.prog 284 #[.int .u8 (c.toNat:Nat)] w' λ e a=>e = ba (a9 b)/\w'=a from λ w'=>by
  have h:=jE c w'
  rwa [d] at h)
 clear d;cases b
 .go_enter Tryz.func285,Tryz.ntmps285;go_wp2_with fail;refine (H.o _).mono ?_;rintro e g ⟨rfl,rfl⟩;go_wp2_with fail
  all_goals (go_ret;exact⟨au (by rw[f.o];rw[Bool.eq_iff_iff];simp;try omega),rfl⟩)
 .go_enter Tryz.func285,Tryz.ntmps285;go_wp2_with fail;refine (H.o _).mono ?_;rintro e g ⟨rfl,rfl⟩;go_wp2_with fail
  all_goals (go_ret;exact⟨au (by rw[f.o];rfl),rfl⟩)
theorem VA (c:UInt8) (w:World) :
  KG 286 #[.int .u8 (c.toNat:Nat)] w (a9 (yL c)):=by
 obtain⟨b,d⟩:=af (gp c);have f:=qh (show yL c=(b || decide (c.toNat=45)) by unfold yL;rw[d,show decide (c=45)=decide (c.toNat=45) from decide_eq_decide.2 (toNat_eq c 45 (by decide))]);have H:=qh (show ∀ w',Calls Tryz.prog 284 #[.int .u8 (c.toNat:Nat)] w' λ e a=>e = ba (a9 b)/\w'=a from λ w'=>by
  have h:=jE c w'
  rwa [d] at h)
 clear d;cases b
 .go_enter Tryz.func286,Tryz.ntmps286;go_wp2_with fail;refine (H.o _).mono ?_;rintro e g ⟨rfl,rfl⟩;go_wp2_with fail
  all_goals (go_ret;exact⟨au (by rw[f.o];rw[Bool.eq_iff_iff];simp;try omega),rfl⟩)
 .go_enter Tryz.func286,Tryz.ntmps286;go_wp2_with fail;refine (H.o _).mono ?_;rintro e g ⟨rfl,rfl⟩;go_wp2_with fail
  all_goals (go_ret;exact⟨au (by rw[f.o];rfl),rfl⟩)
theorem nJ {s:ByteArray} {i:Nat} (h:i<s.size):s.data.toList.drop i=s[i] :: s.data.toList.drop (i+1):=by
 have a:i<s.data.toList.length:=by rw[bh];exact h
 rw[bj a];rfl
theorem drop_end {s:ByteArray} {i:Nat} (h:s.size<=i):s.data.toList.drop i = []:=bm (by rw[bh];exact h)
theorem mQ {s:ByteArray} {p:UInt8->Bool} {i k:Nat} (h:i<s.size) (a:p s[i]=true) (b:k=i+bZ p (s.data.toList.drop i)):k=i+1+bZ p (s.data.toList.drop (i+1)):=by
 rw[b,nJ h,bZ,a,if_pos rfl];omega
theorem oG {s:ByteArray} {p:UInt8->Bool} {i k:Nat} (h:i<s.size) (a:p s[i]=false) (b:k=i+bZ p (s.data.toList.drop i)):k=i:=by
 rw[b,nJ h,bZ,a,if_neg (by decide)];rfl
theorem qK {s:ByteArray} {p:UInt8->Bool} {i k:Nat} (h:¬ i<s.size) (a:k=i+bZ p (s.data.toList.drop i)):k=i:=by
 rw[a,drop_end (by omega)];rfl
theorem VB (g:Nat) (s:ByteArray) (k:Nat) (w:World) (u:w.cell? ⟨g,0,none⟩=some (a6 s)) (r:k<=s.size) (v:s.size<=4000) :
  KG 283 #[a8 (some ⟨g,0,none⟩),a4 a5 (k:Nat),.func (.func 57) #[] #[]] w (a4 a5 ((k+bZ fC (s.data.toList.drop k):Nat):Int)):=by
 obtain⟨K,f⟩:=af (k+bZ fC (s.data.toList.drop k));have p:=qh f.symm;rw[f];clear f;go_enter Tryz.func283,Tryz.ntmps283;go_wp2_with fail
 go_loop [1] (λ i=>∃ n:Nat,n<=s.size/\i = a4 a5 n/\Hid (K=n+bZ fC (s.data.toList.drop n))) (λ i=>s.size - (intOf i).toNat)
 case atStart=>exact⟨k,r,rfl,p⟩
 case round =>
  obtain⟨n,t,rfl,j⟩:=hrel;by_cases hlt:n<s.size
  .obtain⟨b,h⟩:=af (fC s[n]);have l:=qh h;have d:=qh hlt;have HW:=qh (show Calls Tryz.prog 57 #[.int .u8 (s[n].toNat:Nat)] w λ e a=>e = ba (a9 b)/\w=a from by
    exact (jo s[n] w).mono λ e a ⟨o,q⟩=>⟨o.trans (congrArg (λ x=>bd (a9 x)) h),q⟩)
   clear h;cases b
   .have c:=qh (oG d.o l.o j.o);go_wp2_with (go_at_call 57;refine HW.o.mono ?_;rintro e m ⟨rfl,rfl⟩);go_ret;exact⟨by rw[c.o];try rfl,rfl⟩
   .have c:=qh (mQ d.o l.o j.o);go_wp2_with (go_at_call 57;refine HW.o.mono ?_;rintro e m ⟨rfl,rfl⟩)
    go_round
    case rel=>exact⟨n+1,d.o,by go_num,c⟩
    case measure =>
     have:=d.o;simp[intOf];omega
  .have c:=qh (qK hlt j.o);go_wp2_with fail;go_ret;exact⟨by rw[c.o];try rfl,rfl⟩
theorem Rk (g:Nat) (s:ByteArray) (k:Nat) (w:World) (u:w.cell? ⟨g,0,none⟩=some (a6 s)) (r:k<=s.size) (v:s.size<=4000) :
  KG 283 #[a8 (some ⟨g,0,none⟩),a4 a5 (k:Nat),.func (.func 285) #[] #[]] w (a4 a5 ((k+bZ vO (s.data.toList.drop k):Nat):Int)):=by
 obtain⟨K,f⟩:=af (k+bZ vO (s.data.toList.drop k));have p:=qh f.symm;rw[f];clear f;go_enter Tryz.func283,Tryz.ntmps283;go_wp2_with fail
 go_loop [1] (λ i=>∃ n:Nat,n<=s.size/\i = a4 a5 n/\Hid (K=n+bZ vO (s.data.toList.drop n))) (λ i=>s.size - (intOf i).toNat)
 case atStart=>exact⟨k,r,rfl,p⟩
 case round =>
  obtain⟨n,t,rfl,j⟩:=hrel;by_cases hlt:n<s.size
  .obtain⟨b,h⟩:=af (vO s[n]);have l:=qh h;have d:=qh hlt;have HW:=qh (show Calls Tryz.prog 285 #[.int .u8 (s[n].toNat:Nat)] w λ e a=>e = ba (a9 b)/\w=a from by
    exact (Vz s[n] w).mono λ e a ⟨o,q⟩=>⟨o.trans (congrArg (λ x=>bd (a9 x)) h),q⟩)
   clear h;cases b
   .have c:=qh (oG d.o l.o j.o);go_wp2_with (go_at_call 285;refine HW.o.mono ?_;rintro e m ⟨rfl,rfl⟩);go_ret;exact⟨by rw[c.o];try rfl,rfl⟩
   .have c:=qh (mQ d.o l.o j.o);go_wp2_with (go_at_call 285;refine HW.o.mono ?_;rintro e m ⟨rfl,rfl⟩)
    go_round
    case rel=>exact⟨n+1,d.o,by go_num,c⟩
    case measure =>
     have:=d.o;simp[intOf];omega
  .have c:=qh (qK hlt j.o);go_wp2_with fail;go_ret;exact⟨by rw[c.o];try rfl,rfl⟩
theorem VC (g:Nat) (s:ByteArray) (k:Nat) (w:World) (u:w.cell? ⟨g,0,none⟩=some (a6 s)) (r:k<=s.size) (v:s.size<=4000) :
  KG 283 #[a8 (some ⟨g,0,none⟩),a4 a5 (k:Nat),.func (.func 286) #[] #[]] w (a4 a5 ((k+bZ yL (s.data.toList.drop k):Nat):Int)):=by
 obtain⟨K,f⟩:=af (k+bZ yL (s.data.toList.drop k));have p:=qh f.symm;rw[f];clear f;go_enter Tryz.func283,Tryz.ntmps283;go_wp2_with fail
 go_loop [1] (λ i=>∃ n:Nat,n<=s.size/\i = a4 a5 n/\Hid (K=n+bZ yL (s.data.toList.drop n))) (λ i=>s.size - (intOf i).toNat)
 case atStart=>exact⟨k,r,rfl,p⟩
 case round =>
  obtain⟨n,t,rfl,j⟩:=hrel;by_cases hlt:n<s.size
  .obtain⟨b,h⟩:=af (yL s[n]);have l:=qh h;have d:=qh hlt;have HW:=qh (show Calls Tryz.prog 286 #[.int .u8 (s[n].toNat:Nat)] w λ e a=>e = ba (a9 b)/\w=a from by
    exact (VA s[n] w).mono λ e a ⟨o,q⟩=>⟨o.trans (congrArg (λ x=>bd (a9 x)) h),q⟩)
   clear h;cases b
   .have c:=qh (oG d.o l.o j.o);go_wp2_with (go_at_call 286;refine HW.o.mono ?_;rintro e m ⟨rfl,rfl⟩);go_ret;exact⟨by rw[c.o];try rfl,rfl⟩
   .have c:=qh (mQ d.o l.o j.o);go_wp2_with (go_at_call 286;refine HW.o.mono ?_;rintro e m ⟨rfl,rfl⟩)
    go_round
    case rel=>exact⟨n+1,d.o,by go_num,c⟩
    case measure =>
     have:=d.o;simp[intOf];omega
  .have c:=qh (qK hlt j.o);go_wp2_with fail;go_ret;exact⟨by rw[c.o];try rfl,rfl⟩
theorem YW (g:Nat) (s:ByteArray) (k:Nat) (w:World) (u:w.cell? ⟨g,0,none⟩=some (a6 s)) (r:k<=s.size) (v:s.size<=4000) :
  KG 283 #[a8 (some ⟨g,0,none⟩),a4 a5 (k:Nat),.func (.func 284) #[] #[]] w (a4 a5 ((k+bZ gp (s.data.toList.drop k):Nat):Int)):=by
 obtain⟨K,f⟩:=af (k+bZ gp (s.data.toList.drop k));have p:=qh f.symm;rw[f];clear f;go_enter Tryz.func283,Tryz.ntmps283;go_wp2_with fail
 go_loop [1] (λ i=>∃ n:Nat,n<=s.size/\i = a4 a5 n/\Hid (K=n+bZ gp (s.data.toList.drop n))) (λ i=>s.size - (intOf i).toNat)
 case atStart=>exact⟨k,r,rfl,p⟩
 case round =>
  obtain⟨n,t,rfl,j⟩:=hrel;by_cases hlt:n<s.size
  .obtain⟨b,h⟩:=af (gp s[n]);have l:=qh h;have d:=qh hlt;have HW:=qh (show Calls Tryz.prog 284 #[.int .u8 (s[n].toNat:Nat)] w λ e a=>e = ba (a9 b)/\w=a from by
    exact (jE s[n] w).mono λ e a ⟨o,q⟩=>⟨o.trans (congrArg (λ x=>bd (a9 x)) h),q⟩)
   clear h;cases b
   .have c:=qh (oG d.o l.o j.o);go_wp2_with (go_at_call 284;refine HW.o.mono ?_;rintro e m ⟨rfl,rfl⟩);go_ret;exact⟨by rw[c.o];try rfl,rfl⟩
   .have c:=qh (mQ d.o l.o j.o);go_wp2_with (go_at_call 284;refine HW.o.mono ?_;rintro e m ⟨rfl,rfl⟩)
    go_round
    case rel=>exact⟨n+1,d.o,by go_num,c⟩
    case measure =>
     have:=d.o;simp[intOf];omega
  .have c:=qh (qK hlt j.o);go_wp2_with fail;go_ret;exact⟨by rw[c.o];try rfl,rfl⟩
theorem YX {s:ByteArray} {i k:Nat} (h:i+1<s.size) (a:s[i]=39) (b:s[i+1]=39) (c:k=i+dZ (s.data.toList.drop i)):k=i+2+dZ (s.data.toList.drop (i+2)):=by
 have e:dZ (s[i] :: s[i+1] :: s.data.toList.drop (i+1+1))=dZ (s.data.toList.drop (i+1+1))+2:=by rw[dZ,if_neg (by simp[a]),if_pos b]
 rw[c,nJ (i:=i) (by omega),nJ h,e,show i+1+1=i+2 from rfl];omega
theorem YY {s:ByteArray} {i k:Nat} (h:i+1<s.size) (a:s[i]=39) (b:s[i+1]≠39) (c:k=i+dZ (s.data.toList.drop i)):k=i+1:=by
 have e:dZ (s[i] :: s[i+1] :: s.data.toList.drop (i+1+1))=1:=by rw[dZ,if_neg (by simp[a]),if_neg b]
 rw[c,nJ (i:=i) (by omega),nJ h,e]
theorem YZ {s:ByteArray} {i k:Nat} (h:i<s.size) (b:¬ i+1<s.size) (a:k=i+dZ (s.data.toList.drop i)):k=i+1:=by
 rw[a,nJ h,drop_end (i:=i+1) (by omega)];rfl
theorem VD {s:ByteArray} {i k:Nat} (h:i<s.size) (b:s[i]≠39) (a:k=i+dZ (s.data.toList.drop i)):k=i+1+dZ (s.data.toList.drop (i+1)):=by
 by_cases h2:i+1<s.size
 .have e:dZ (s[i] :: s[i+1] :: s.data.toList.drop (i+1+1))=dZ (s[i+1] :: s.data.toList.drop (i+1+1))+1:=by rw[dZ,if_pos b]
  rw[a,nJ h,nJ h2,e];omega
 .rw[a,nJ h,drop_end (i:=i+1) (by omega)];rfl
theorem Y1 {s:ByteArray} {i k:Nat} (h:¬ i<s.size) (a:k=i+dZ (s.data.toList.drop i)):k=i:=by
 rw[a,drop_end (by omega)];rfl
theorem Rl (g:Nat) (s:ByteArray) (k:Nat) (w:World) (q:w.cell? ⟨g,0,none⟩=some (a6 s)) (m:k<s.size) (r:s.size<=4000) :
  KG 287 #[a8 (some ⟨g,0,none⟩),a4 a5 (k:Nat)] w (a4 a5 ((k+1+dZ (s.data.toList.drop (k+1)):Nat):Int)):=by
 obtain⟨K,f⟩:=af (k+1+dZ (s.data.toList.drop (k+1)));have l:=qh f.symm;rw[f];clear f;go_enter Tryz.func287,Tryz.ntmps287;go_wp2_with fail
 go_loop [5] (λ i=>∃ n:Nat,n<=s.size/\i = a4 a5 n/\Hid (K=n+dZ (s.data.toList.drop n))) (λ i=>s.size - (intOf i).toNat)
 case atStart=>exact⟨k+1,m,by go_num,l⟩
 case round =>
  obtain⟨n,p,rfl,c⟩:=hrel;by_cases hlt:n<s.size
  .have j:=qh hlt;by_cases qI:s[n].toNat=39
   .have d:s[n]=39:=(toNat_eq s[n] 39 (by decide)).2 qI;by_cases hl2:n+1<s.size
    .have o:((n:Int)+1)<(s.size:Int):=by omega
     by_cases h2:s[n+1].toNat=39
     .have a:=qh (YX hl2 d ((toNat_eq s[n+1] 39 (by decide)).2 h2) c.o);have b:=qh hl2;have b1:((s[n].toNat:Int) != 39)=false:=by simp;omega
      have b2:((s[n+1].toNat:Int) == 39)=true:=by simp;omega
      clear qI d h2;go_wp2_with fail
      go_round
      case rel=>exact⟨n+2,b.o,by go_num,a⟩
      case measure =>
       have:=b.o;simp[intOf];omega
     .have a:=qh (YY hl2 d (λ e=>h2 ((toNat_eq s[n+1] 39 (by decide)).1 e)) c.o);have b1:((s[n].toNat:Int) != 39)=false:=by simp;omega
      have b2:((s[n+1].toNat:Int) == 39)=false:=by simp;omega
      clear qI d h2;go_wp2_with fail;go_ret;exact⟨by rw[a.o];try rfl,rfl⟩
    .have a:=qh (YZ hlt hl2 c.o);have b1:((s[n].toNat:Int) != 39)=false:=by simp;omega
     clear qI d;go_wp2_with fail;go_ret;exact⟨by rw[a.o];try rfl,rfl⟩
   .have a:=qh (VD hlt (λ e=>qI ((toNat_eq s[n] 39 (by decide)).1 e)) c.o);have b1:((s[n].toNat:Int) != 39)=true:=by simp;omega
    clear qI;go_wp2_with fail
    go_round
    case rel=>exact⟨n+1,j.o,by go_num,a⟩
    case measure =>
     have:=j.o;simp[intOf];omega
  .have a:=qh (Y1 hlt c.o);have h:n=s.size:=by omega
   go_wp2_with fail;go_ret;exact⟨by rw[a.o,h];try rfl,rfl⟩
theorem Bh (s:ByteArray) (i:Nat):(s.extract i s.size).data.toList=s.data.toList.drop i:=by
 rw[bn];exact bo (by rw[bk,bh];exact bc _)
theorem D7:∀ r:List UInt8,bg r 125=if (125:UInt8)∈r then ((oq r:Nat):Int) - 1 else -1
 | []=>by simp[bg]
 | b :: l=>by
  rw[bg,oq];by_cases hb:b=125
  .subst hb;rw[if_pos (by decide),if_pos (bp ..),if_pos rfl];rfl
  .have c:=D7 l;rw[if_neg (by simpa using hb),if_neg hb,c];by_cases hm:(125:UInt8)∈l
   .have d:1<=oq l:=by
     cases l with
     | nil=>cases hm
     | cons a l=>rw[oq];split <;> omega
    rw[if_pos hm,if_pos (bq _ hm),if_neg (by simp;omega)];omega
   .rw[if_neg hm,if_pos (by decide),if_neg (λ h=>by
     rcases List.mem_cons.1 h with e | e
     .exact hb e.symm
     .exact hm e)]
theorem G5:∀ {r:List UInt8},(125:UInt8) ∉ r->oq r=r.length
 | [],_=>rfl
 | b :: l,h=>by
  rw[oq,if_neg (λ e=>h (by rw[e];exact bp ..)),G5 (λ e=>h (bq _ e)),List.length_cons]
theorem LQ (a b c:UInt8) (r:List UInt8):bb (c :: r) [a,b]=(decide (c=a) && (match r with
  | d :: _=>decide (d=b)
  | []=>false)):=by
 unfold bb;cases r with
 | nil=>simp[br]
 | cons d r =>
  have h:∀ x y:UInt8,(x == y)=decide (y=x):=λ x y=>by
   by_cases e:y=x
   .subst e;simp
   .rw[decide_eq_false e];simpa using λ h=>e h.symm
  simp[br,h]
theorem Y3 (c:UInt8) (r:List UInt8):qY c r=if (bb (c :: r) [60,62] || bb (c :: r) [60,61] || bb (c :: r) [62,61])=true then 2 else 1:=by
 rw[LQ,LQ,LQ];cases r with
 | nil=>simp[qY]
 | cons d r =>
  unfold qY QL;dsimp only;congr 1;by_cases h1:c=60 <;> by_cases h2:c=62 <;> by_cases h3:d=62 <;> by_cases h4:d=61 <;> simp_all
theorem akS (w:World):(be 373 (.agg #[.string ⟨#[60,62]⟩,.string ⟨#[60,61]⟩,.string ⟨#[62,61]⟩]) (.int .i64 0)).run Tryz.prog w = .ok (.string ⟨#[60,62]⟩) w:=by simp[be,run_underlying Tryz.underlying373,go_sem]
theorem akT (w:World):(be 373 (.agg #[.string ⟨#[60,62]⟩,.string ⟨#[60,61]⟩,.string ⟨#[62,61]⟩]) (.int .i64 1)).run Tryz.prog w = .ok (.string ⟨#[60,61]⟩) w:=by simp[be,run_underlying Tryz.underlying373,go_sem]
theorem akU (w:World):(be 373 (.agg #[.string ⟨#[60,62]⟩,.string ⟨#[60,61]⟩,.string ⟨#[62,61]⟩]) (.int .i64 2)).run Tryz.prog w = .ok (.string ⟨#[62,61]⟩) w:=by simp[be,run_underlying Tryz.underlying373,go_sem]
theorem D8 (g:Nat) (s:ByteArray) (i:Nat) (w:World) (E:w.cell? ⟨g,0,none⟩=some (a6 s)) (M:i<s.size) (G:s.size<=4000) :
  KG 269 #[a8 (some ⟨g,0,none⟩),a4 a5 (i:Nat)] w (a4 a5 ((i+dG (s.data.toList.drop i):Nat):Int)):=by
 obtain⟨K,c⟩:=af (i+dG (s.data.toList.drop i));rw[c];have n:=nJ M;obtain⟨r,o⟩:=af (s.data.toList.drop (i+1));rw[o] at n;rw[n,dG] at c;have U:(0:Int)<=(i:Int):=by omega
 have R:(i:Int)<(s.size:Int):=by omega
 obtain⟨b1,f⟩:=af (nN s[i]);obtain⟨b2,j⟩:=af (gp s[i]);have t:=qh (show Calls Tryz.prog 55 #[.int .u8 (s[i].toNat:Nat)] w λ e d=>e = ba (a9 b1)/\w=d from by
  exact (oL s[i] w).mono λ e d ⟨H,J⟩=>⟨H.trans (congrArg (λ x=>bd (a9 x)) f),J⟩)
 have q:=qh (show Calls Tryz.prog 284 #[.int .u8 (s[i].toNat:Nat)] w λ e d=>e = ba (a9 b2)/\w=d from by
  exact (jE s[i] w).mono λ e d ⟨H,J⟩=>⟨H.trans (congrArg (λ x=>bd (a9 x)) j),J⟩)
 rw[f,j] at c;cases b1;rotate_left
 .rw[if_pos rfl] at c;have b:=qh (show ((i:Nat):Int)+((bZ fC (s.data.toList.drop i):Nat):Int)=(K:Nat) by rw[n,bZ,YS f,if_pos rfl];omega);clear f j c n o;go_enter Tryz.func269,Tryz.ntmps269;go_wp2_with (first | (go_at_call 55;refine t.o.mono ?_;rintro e a ⟨rfl,rfl⟩) | (go_at_call 284;refine q.o.mono ?_;rintro e a ⟨rfl,rfl⟩) | (go_at_call 283;refine (VB g s (i) _ E (by omega) G).mono ?_;rintro e a ⟨rfl,rfl⟩));go_ret;exact⟨ag b.o,rfl⟩
 rw[if_neg (by decide)] at c;cases b2;rotate_left
 .rw[if_pos rfl] at c;have b:=qh (show ((i:Nat):Int)+((bZ vO (s.data.toList.drop i):Nat):Int)=(K:Nat) by rw[n,bZ,show vO s[i]=true by unfold vO;rw[j];rfl,if_pos rfl];omega);clear f j c n o;go_enter Tryz.func269,Tryz.ntmps269;go_wp2_with (first | (go_at_call 55;refine t.o.mono ?_;rintro e a ⟨rfl,rfl⟩) | (go_at_call 284;refine q.o.mono ?_;rintro e a ⟨rfl,rfl⟩) | (go_at_call 283;refine (Rk g s (i) _ E (by omega) G).mono ?_;rintro e a ⟨rfl,rfl⟩));go_ret;exact⟨ag b.o,rfl⟩
 rw[if_neg (by decide)] at c;by_cases h64:s[i]=64
 .rw[if_pos h64] at c;have X:((s[i].toNat:Int) == 64)=true:=by simp;have:=(toNat_eq s[i] 64 (by decide)).1 h64;omega
  have b:=qh (show ((i:Nat):Int)+1+((bZ yL (s.data.toList.drop (i+1)):Nat):Int)=(K:Nat) by rw[o];omega);clear f j c n o h64;go_enter Tryz.func269,Tryz.ntmps269;go_wp2_with (first | (go_at_call 55;refine t.o.mono ?_;rintro e a ⟨rfl,rfl⟩) | (go_at_call 284;refine q.o.mono ?_;rintro e a ⟨rfl,rfl⟩) | (go_at_call 283;refine (VC g s (i+1) _ E (by omega) G).mono ?_;rintro e a ⟨rfl,rfl⟩));go_ret;exact⟨ag b.o,rfl⟩
 rw[if_neg h64] at c;by_cases h35:s[i]=35
 .rw[if_pos h35] at c;have W:((s[i].toNat:Int) == 35)=true:=by simp;have:=(toNat_eq s[i] 35 (by decide)).1 h35;omega
  have z:((s[i].toNat:Int) == 64)=false:=by simp;exact λ e=>h64 ((toNat_eq s[i] 64 (by decide)).2 (by omega))
  have b:=qh (show ((i:Nat):Int)+1+((bZ gp (s.data.toList.drop (i+1)):Nat):Int)=(K:Nat) by rw[o];omega);clear f j c n o h64 h35;go_enter Tryz.func269,Tryz.ntmps269;go_wp2_with (first | (go_at_call 55;refine t.o.mono ?_;rintro e a ⟨rfl,rfl⟩) | (go_at_call 284;refine q.o.mono ?_;rintro e a ⟨rfl,rfl⟩) | (go_at_call 283;refine (YW g s (i+1) _ E (by omega) G).mono ?_;rintro e a ⟨rfl,rfl⟩));go_ret;exact⟨ag b.o,rfl⟩
 rw[if_neg h35] at c;by_cases qI:s[i]=39
 .rw[if_pos qI] at c;have T:((s[i].toNat:Int) == 39)=true:=by simp;have:=(toNat_eq s[i] 39 (by decide)).1 qI;omega
  have z:((s[i].toNat:Int) == 64)=false:=by simp;exact λ e=>h64 ((toNat_eq s[i] 64 (by decide)).2 (by omega))
  have D:((s[i].toNat:Int) == 35)=false:=by simp;exact λ e=>h35 ((toNat_eq s[i] 35 (by decide)).2 (by omega))
  have b:=qh (show ((i:Nat):Int)+1+((dZ (s.data.toList.drop (i+1)):Nat):Int)=(K:Nat) by rw[o];omega);clear f j c n o h64 h35 qI;go_enter Tryz.func269,Tryz.ntmps269;go_wp2_with (first | (go_at_call 55;refine t.o.mono ?_;rintro e a ⟨rfl,rfl⟩) | (go_at_call 284;refine q.o.mono ?_;rintro e a ⟨rfl,rfl⟩) | (go_at_call 287;refine (Rl g s i _ E M G).mono ?_;rintro e a ⟨rfl,rfl⟩));go_ret;exact⟨ag b.o,rfl⟩
 rw[if_neg qI] at c;by_cases iG:s[i]=123
 .rw[if_pos iG] at c;have V:((s[i].toNat:Int) == 123)=true:=by simp;have:=(toNat_eq s[i] 123 (by decide)).1 iG;omega
  have z:((s[i].toNat:Int) == 64)=false:=by simp;exact λ e=>h64 ((toNat_eq s[i] 64 (by decide)).2 (by omega))
  have D:((s[i].toNat:Int) == 35)=false:=by simp;exact λ e=>h35 ((toNat_eq s[i] 35 (by decide)).2 (by omega))
  have I:((s[i].toNat:Int) == 39)=false:=by simp;exact λ e=>qI ((toNat_eq s[i] 39 (by decide)).2 (by omega))
  have u:=qh (show ∀ w',Calls Tryz.prog 288 #[a6 (s.extract i s.size),.int .u8 125] w' λ e d=>e = ba (a4 a5 (bg (s.data.toList.drop i) 125))/\d=w' from λ w'=>by
   have h:=Tryz.strings_IndexByte (s.extract i s.size) 125 w'
   rwa [Bh] at h)
  have p:bg (s.data.toList.drop i) 125=if (125:UInt8)∈r then ((oq r:Nat):Int) else -1:=by
   rw[n,D7,iG];have v:((125:UInt8)∈(123:UInt8) :: r) ↔ (125:UInt8)∈r:=by simp
   by_cases h:(125:UInt8)∈r
   .rw[if_pos (v.2 h),if_pos h,oq,if_neg (by decide)];omega
   .rw[if_neg (λ e=>h (v.1 e)),if_neg h]
  have F:r.length+(i+1)=s.size:=by rw[<- o,bk,bh];show s.size - (i+1)+(i+1)=_;omega
  have C:=Gi r;by_cases v:(125:UInt8)∈r
  .rw[if_pos v] at p;rw[p] at u;obtain⟨N,O⟩:=af (oq r);rw[O] at u c C;have b:=qh (show ((i:Nat):Int)+(N:Nat)+1=(K:Nat) by omega);have Y:N<=4000:=by omega
   clear f j c n o h64 h35 qI iG v p O C F;go_enter Tryz.func269,Tryz.ntmps269;go_wp2_with (first | (go_at_call 55;refine t.o.mono ?_;rintro e a ⟨rfl,rfl⟩) | (go_at_call 284;refine q.o.mono ?_;rintro e a ⟨rfl,rfl⟩) | (go_at_call 288;refine (u.o _).mono ?_;rintro e a ⟨rfl,rfl⟩));go_ret;exact⟨ag b.o,rfl⟩
  .rw[if_neg v] at p;rw[p] at u;have b:=qh (show ((s.size:Nat):Int)=(K:Nat) by rw[G5 v] at c;omega);clear f j c n o h64 h35 qI iG v p C F;go_enter Tryz.func269,Tryz.ntmps269;go_wp2_with (first | (go_at_call 55;refine t.o.mono ?_;rintro e a ⟨rfl,rfl⟩) | (go_at_call 284;refine q.o.mono ?_;rintro e a ⟨rfl,rfl⟩) | (go_at_call 288;refine (u.o _).mono ?_;rintro e a ⟨rfl,rfl⟩));go_ret;exact⟨ag b.o,rfl⟩
 rw[if_neg iG] at c;have z:((s[i].toNat:Int) == 64)=false:=by simp;exact λ e=>h64 ((toNat_eq s[i] 64 (by decide)).2 (by omega))
 have D:((s[i].toNat:Int) == 35)=false:=by simp;exact λ e=>h35 ((toNat_eq s[i] 35 (by decide)).2 (by omega))
 have I:((s[i].toNat:Int) == 39)=false:=by simp;exact λ e=>qI ((toNat_eq s[i] 39 (by decide)).2 (by omega))
 have P:((s[i].toNat:Int) == 123)=false:=by simp;exact λ e=>iG ((toNat_eq s[i] 123 (by decide)).2 (by omega))
 rw[Y3] at c;obtain⟨S,B⟩:=af (bb (s[i] :: r) [60,62]);have m:=qh (show ∀ w',Calls Tryz.prog 58 #[a6 (s.extract i s.size),a6 ⟨#[60,62]⟩] w' λ e d=>e = ba (a9 S)/\d=w' from λ w'=>by
  have h:=Tryz.strings_HasPrefix (s.extract i s.size) ⟨#[60,62]⟩ w';rw[Bh,n] at h
  rwa [B] at h)
 obtain⟨Q,A⟩:=af (bb (s[i] :: r) [60,61]);have k:=qh (show ∀ w',Calls Tryz.prog 58 #[a6 (s.extract i s.size),a6 ⟨#[60,61]⟩] w' λ e d=>e = ba (a9 Q)/\d=w' from λ w'=>by
  have h:=Tryz.strings_HasPrefix (s.extract i s.size) ⟨#[60,61]⟩ w';rw[Bh,n] at h
  rwa [A] at h)
 obtain⟨L,y⟩:=af (bb (s[i] :: r) [62,61]);have l:=qh (show ∀ w',Calls Tryz.prog 58 #[a6 (s.extract i s.size),a6 ⟨#[62,61]⟩] w' λ e d=>e = ba (a9 L)/\d=w' from λ w'=>by
  have h:=Tryz.strings_HasPrefix (s.extract i s.size) ⟨#[62,61]⟩ w';rw[Bh,n] at h
  rwa [y] at h)
 have Z:=akS;have X1:=akT;have X2:=akU;rw[B,A,y] at c;clear f j n o h64 h35 qI iG B A y;cases S;rotate_left
 .have b:=qh (show ((i:Nat):Int)+2=(K:Nat) by have h:=(show i+2=K by simpa using c);omega);clear c;go_enter Tryz.func269,Tryz.ntmps269;go_wp2_with (first | (go_at_call 55;refine t.o.mono ?_;rintro e a ⟨rfl,rfl⟩) | (go_at_call 284;refine q.o.mono ?_;rintro e a ⟨rfl,rfl⟩) | fail);refine wp_loop_rounds 4 ?_
  (rw[rounds_succ];go_wp2_with (first | (go_at_call 58;refine (m.o _).mono ?_;rintro e a ⟨rfl,rfl⟩) | (go_at_call 58;refine (k.o _).mono ?_;rintro e a ⟨rfl,rfl⟩) | (go_at_call 58;refine (l.o _).mono ?_;rintro e a ⟨rfl,rfl⟩)))
  go_ret;exact⟨ag b.o,rfl⟩
 cases Q;rotate_left
 .have b:=qh (show ((i:Nat):Int)+2=(K:Nat) by have h:=(show i+2=K by simpa using c);omega);clear c;go_enter Tryz.func269,Tryz.ntmps269;go_wp2_with (first | (go_at_call 55;refine t.o.mono ?_;rintro e a ⟨rfl,rfl⟩) | (go_at_call 284;refine q.o.mono ?_;rintro e a ⟨rfl,rfl⟩) | fail);refine wp_loop_rounds 4 ?_
  (rw[rounds_succ];go_wp2_with (first | (go_at_call 58;refine (m.o _).mono ?_;rintro e a ⟨rfl,rfl⟩) | (go_at_call 58;refine (k.o _).mono ?_;rintro e a ⟨rfl,rfl⟩) | (go_at_call 58;refine (l.o _).mono ?_;rintro e a ⟨rfl,rfl⟩)))
  (rw[rounds_succ];go_wp2_with (first | (go_at_call 58;refine (m.o _).mono ?_;rintro e a ⟨rfl,rfl⟩) | (go_at_call 58;refine (k.o _).mono ?_;rintro e a ⟨rfl,rfl⟩) | (go_at_call 58;refine (l.o _).mono ?_;rintro e a ⟨rfl,rfl⟩)))
  go_ret;exact⟨ag b.o,rfl⟩
 cases L;rotate_left
 .have b:=qh (show ((i:Nat):Int)+2=(K:Nat) by have h:=(show i+2=K by simpa using c);omega);clear c;go_enter Tryz.func269,Tryz.ntmps269;go_wp2_with (first | (go_at_call 55;refine t.o.mono ?_;rintro e a ⟨rfl,rfl⟩) | (go_at_call 284;refine q.o.mono ?_;rintro e a ⟨rfl,rfl⟩) | fail);refine wp_loop_rounds 4 ?_
  (rw[rounds_succ];go_wp2_with (first | (go_at_call 58;refine (m.o _).mono ?_;rintro e a ⟨rfl,rfl⟩) | (go_at_call 58;refine (k.o _).mono ?_;rintro e a ⟨rfl,rfl⟩) | (go_at_call 58;refine (l.o _).mono ?_;rintro e a ⟨rfl,rfl⟩)))
  (rw[rounds_succ];go_wp2_with (first | (go_at_call 58;refine (m.o _).mono ?_;rintro e a ⟨rfl,rfl⟩) | (go_at_call 58;refine (k.o _).mono ?_;rintro e a ⟨rfl,rfl⟩) | (go_at_call 58;refine (l.o _).mono ?_;rintro e a ⟨rfl,rfl⟩)))
  (rw[rounds_succ];go_wp2_with (first | (go_at_call 58;refine (m.o _).mono ?_;rintro e a ⟨rfl,rfl⟩) | (go_at_call 58;refine (k.o _).mono ?_;rintro e a ⟨rfl,rfl⟩) | (go_at_call 58;refine (l.o _).mono ?_;rintro e a ⟨rfl,rfl⟩)))
  go_ret;exact⟨ag b.o,rfl⟩
 have b:=qh (show ((i:Nat):Int)+1=(K:Nat) by have h:=(show i+1=K by simpa using c);omega);clear c;go_enter Tryz.func269,Tryz.ntmps269;go_wp2_with (first | (go_at_call 55;refine t.o.mono ?_;rintro e a ⟨rfl,rfl⟩) | (go_at_call 284;refine q.o.mono ?_;rintro e a ⟨rfl,rfl⟩) | fail);refine wp_loop_rounds 4 ?_
 (rw[rounds_succ];go_wp2_with (first | (go_at_call 58;refine (m.o _).mono ?_;rintro e a ⟨rfl,rfl⟩) | (go_at_call 58;refine (k.o _).mono ?_;rintro e a ⟨rfl,rfl⟩) | (go_at_call 58;refine (l.o _).mono ?_;rintro e a ⟨rfl,rfl⟩)))
 (rw[rounds_succ];go_wp2_with (first | (go_at_call 58;refine (m.o _).mono ?_;rintro e a ⟨rfl,rfl⟩) | (go_at_call 58;refine (k.o _).mono ?_;rintro e a ⟨rfl,rfl⟩) | (go_at_call 58;refine (l.o _).mono ?_;rintro e a ⟨rfl,rfl⟩)))
 (rw[rounds_succ];go_wp2_with (first | (go_at_call 58;refine (m.o _).mono ?_;rintro e a ⟨rfl,rfl⟩) | (go_at_call 58;refine (k.o _).mono ?_;rintro e a ⟨rfl,rfl⟩) | (go_at_call 58;refine (l.o _).mono ?_;rintro e a ⟨rfl,rfl⟩)))
 (rw[rounds_succ];go_wp2_with (first | (go_at_call 58;refine (m.o _).mono ?_;rintro e a ⟨rfl,rfl⟩) | (go_at_call 58;refine (k.o _).mono ?_;rintro e a ⟨rfl,rfl⟩) | (go_at_call 58;refine (l.o _).mono ?_;rintro e a ⟨rfl,rfl⟩)))
 go_ret;exact⟨ag b.o,rfl⟩
end Go.Proofs.YtcnagconagpkcaaGreatDoor
namespace Go.Proofs.YtcnagconagpkcaaGreatDoor
open Go.RowKit Dig Vtx
theorem TN (s p:ByteArray) (w:World) (c:s.size<=2000000) :
  Calls Tryz.prog 331 #[a6 s,a6 p] w λ e w'=>(∃ t:ByteArray,e = ba (a6 t)/\t.data.toList=Lib.trimSuffix s.data.toList p.data.toList)/\w=w':=
 (Tryz.strings_TrimSuffix s p w (by omega)).mono λ _ _ ⟨b,a⟩=>⟨⟨_,b,rfl⟩,a.symm⟩
theorem pX {w:World} {B size n g i:Nat} {e:TypeId} {v:Value} {xs:List Value} (h:w.ownsRow B e size v n xs) (o:g<B) (u:Value):(w.setCell ⟨g,i,none⟩ u).ownsRow B e size v n xs:=by
 refine⟨h.1,h.2.imp id ?_⟩;rintro ⟨a,c,b,f,d,j,e3,k,m,l⟩;exact⟨a,c,b,f,d,by rw[Below.heap_setCell w ⟨g,i,none⟩ u a (by show a≠g;omega)];exact j,e3,k,m,l⟩
structure akV (e:Ending) (w:World) (B:Nat) (s:List UInt8):Prop where
 ex:∃ A c l ok,e = ba (.tuple #[.agg #[a4 a5 5,a4 a5 0,a6 ⟨#[]⟩,a7 A (List.length (α:=Int) l) c],a9 ok])/\Reads w w.heap.size 1 A l.length (bI a5 l)/\(∀ ad,A=some ad->B<=ad.block)/\l.length<=2000001 /\
  (ok=true->jS s=some l)/\(ok=false->jS s=none)
theorem O0 (p:List UInt8) (r:List (List UInt8)) (a:Nat) (b:Bool) (h:dK (Lib.trimPrefix p [35])=(a,b)):oh (p :: r)=if b then (oh r).map ((a:Int) :: ·) else none:=by
 rw[oh,h]
theorem O1 (o:Option (List Int)) (b:List Int) (a:Int):(o.map (a :: ·)).map (b ++ ·)=o.map ((b ++ [a]) ++ ·):=by cases o <;> simp
theorem O3 (s:ByteArray) (w:World) (hs:s.size<=2000000) (hm:Mx w) :
  Calls Tryz.prog 333 #[a6 s] w λ e w'=>akV e w' w.heap.size s.data.toList/\IY w w':=by
 have HM:=qh hm;clear hm;obtain⟨i0,an,aD,aL,ap⟩:=info_parts EF;go_enter Tryz.func333,Tryz.ntmps333;go_wp2_with fail;obtain⟨W,O⟩:=aC (((w.alloc (.cells #[a4 a5 0,a4 a5 0,a6 ⟨#[]⟩,a7 none 0 0] 65 (0,0))).alloc (.cells #[a4 a5 5,a4 a5 0,a6 ⟨#[]⟩,a7 none 0 0] 65 (0,0))));have m:IY w W:=by rw[O];exact (((Below.refl _ w).alloc (bc _) _).alloc (by simp) _)
 have B0:ah W (w.heap.size) 65 #[a4 a5 0,a4 a5 0,a6 ⟨#[]⟩,a7 none 0 0]:=by
  rw[O];have:=ah.new w 65 #[a4 a5 0,a4 a5 0,a6 ⟨#[]⟩,a7 none 0 0];have:=this.alloc (.cells #[a4 a5 5,a4 a5 0,a6 ⟨#[]⟩,a7 none 0 0] 65 (0,0));exact this
 have B1:ah W (w.heap.size+1) 65 #[a4 a5 5,a4 a5 0,a6 ⟨#[]⟩,a7 none 0 0]:=by
  rw[O];have:=ah.new (w.alloc (.cells #[a4 a5 0,a4 a5 0,a6 ⟨#[]⟩,a7 none 0 0] 65 (0,0))) 65 #[a4 a5 5,a4 a5 0,a6 ⟨#[]⟩,a7 none 0 0]
  rwa [World.size_alloc] at this
 have ax:W.heap.size=w.heap.size+2:=by rw[O];simp
 rw[<- O];clear O ax;refine (LG s ⟨#[123]⟩ W).mono ?_;rintro e w1 ⟨⟨t1,rfl,K⟩,rfl⟩;have a3:t1.size<=s.size:=by rw[oU K];exact Lib.trimPrefix_le _ _
 have S:=qh K;clear K;go_wp2_with fail;refine (TN t1 ⟨#[125]⟩ W (by omega)).mono ?_;rintro e w1 ⟨⟨t,rfl,ht⟩,rfl⟩;have a1:t.size<=t1.size:=by rw[oU ht];exact Lib.trimSuffix_le _ _
 rw[S.o] at ht;have HT:=qh (show t.data.toList=Gf s.data.toList from ht);clear ht S;obtain⟨dO,kD,eH,kE,ik,oV,iq,oW⟩:=ah.z4 B0;obtain⟨uf,ug,Cc,P⟩:=ah.c4 B1;by_cases h0:t=⟨#[]⟩
 .have HE:=qh (show jS s.data.toList=some [] by unfold jS;rw[<- HT.o,h0];rfl);subst h0;go_wp2;obtain⟨W9,y,Y,U⟩:=dW B0 m (a4 a5 5) (a4 a5 0) (a6 ⟨#[]⟩) (a7 none 0 0);rw[<- y];clear y;obtain⟨Q,o,r,x⟩:=ah.c4 Y;refine bodyPost_ret (v:=.tuple #[.agg #[a4 a5 5,a4 a5 0,a6 ⟨#[]⟩,a7 none 0 0],a9 true]) (by simp[results,Tryz.results333,go_sem,Q,o,r,x]) rfl ⟨⟨⟨none,0,[],true,rfl,Reads.none_,(λ _ h=>by cases h),by simp,λ _=>HE.o,λ h=>by cases h⟩⟩,U⟩
 have E:t.data.toList≠[]:=λ e=>h0 (vX e);have se:t.toList.isEmpty=false:=by rw[ByteArray.toList_eq];simpa using E
 have HE:=qh (show jS s.data.toList=oh (bl t.data.toList [44]) by unfold jS;rw[<- HT.o,if_neg E]);clear E h0 HT dO kD eH kE ik oV iq oW uf ug Cc P;go_wp2_with fail;refine (JO t 44 W (by omega) (HM.o.below m)).mono ?_;rintro e w1 ⟨ps,rfl,z,am,av⟩;have B:IY W w1:=z▸(Below.refl _ W).alloc (bc _) _;have Z:w1.heap.size=W.heap.size+1:=by rw[z];simp
 have B2:ah w1 W.heap.size 9 (ps.map bi).toArray:=z▸ah.new W _ _;rw[<- am] at HE;have V:=B1.lt;have B0:=B0.below B B0.lt;have B1:=B1.below B B1.lt;have m:=m.trans (B.mono m.size);have a0:ps.length<=2000001:=by omega
 have aM:W.heap.size<w1.heap.size:=by omega
 have X:=qh B0;have R:=qh B1;have ak:=qh B2;have d:w.heap.size<w1.heap.size:=B0.lt;have ay:w.heap.size+1<w1.heap.size:=B1.lt;have aW:w.heap.size+1<W.heap.size:=V;clear am z B av Z B0 B1 B2 V;go_wp2;go_loopw [19] (λ i wr=>∃ (k:Nat) (v:Value) (b:List Int),k<=ps.length/\i = a4 a5 k/\Hid (ah wr w.heap.size 65 #[a4 a5 0,a4 a5 0,a6 ⟨#[]⟩,a7 none 0 0])/\Hid (ah wr (w.heap.size+1) 65 #[a4 a5 5,a4 a5 0,a6 ⟨#[]⟩,v])/\Hid (ah wr W.heap.size 9 (ps.map bi).toArray) /\
   Hid (wr.ownsRow w1.heap.size 3 1 v k (bI a5 b))/\Hid (oh (ps.map (·.data.toList))=(oh ((ps.map (·.data.toList)).drop k)).map (b ++ ·))/\IY w wr/\w1.heap.size<=wr.heap.size) (λ i _=>ps.length - (intOf i).toNat)
 case atStart=>exact⟨0,_,[],Nat.zero_le _,rfl,X,R,ak,qh (World.ownsRow_nil _ _ _ _),qh (by simp),m,bc _⟩
 case round =>
  obtain⟨k,v,b,hk,rfl,B0,B1,B2,T,N,H,iT⟩:=hrel;clear X R ak;obtain⟨ab,A,c,rfl,-⟩:=rZ T.o;have al:=qh ab;clear ab;by_cases hlt:k<ps.length
  .obtain⟨p,hp⟩:=af (ps[k]);have pc:wr.cell? ⟨W.heap.size,k,none⟩=some (a6 p):=by rw[B2.o.cell k];simp[hlt,hp]
   have HD:=qh (show (ps.map (·.data.toList)).drop k=p.data.toList :: (ps.map (·.data.toList)).drop (k+1) by
    rw[bj (by simpa using hlt),List.getElem_map,hp])
   clear hp;go_wp2_with fail;refine (LG p ⟨#[35]⟩ wr).mono ?_;rintro e w2 ⟨⟨q,rfl,hq⟩,rfl⟩;obtain⟨a,ok,aa,ac,ha⟩:=kN q.data.toList;have ae:=qh ac;have UY:=qh (O0 p.data.toList ((ps.map (·.data.toList)).drop (k+1)) a ok (by rw[<- aa,hq]));clear hq aa ac pc;go_wp2_with fail;refine (oC q wr).mono ?_;rw[ae.o];rintro e w2 ⟨rfl,rfl⟩;clear ae;cases ok
   .have HF:=qh (show jS s.data.toList=none by
     rw[HE.o,N.o,HD.o,UY.o];rfl)
    have G:b.length<=2000001:=by have:=al.o;omega
    have B0:=B0.o;have B1:=B1.o;obtain⟨dO,kD,eH,kE,ik,oV,iq,oW⟩:=ah.z4 B0;obtain⟨uf,F,ug,L,Cc,J,P,C⟩:=ah.z4 B1;clear N HD UY;go_wp2;obtain⟨W9,y,Y,U⟩:=dW B0 H (a4 a5 5) (a4 a5 0) (a6 ⟨#[]⟩) (a7 A b.length c);have n:=qh (y▸pX (pX (pX (pX T.o d _) d _) d _) d _:W9.ownsRow w1.heap.size 3 1 (a7 A b.length c) k (bI a5 b));rw[<- y];clear y;obtain⟨Q,o,r,x⟩:=ah.c4 Y;refine bodyPost_ret (v:=.tuple #[.agg #[a4 a5 5,a4 a5 0,a6 ⟨#[]⟩,a7 A b.length c],a9 false]) (by simp[results,Tryz.results333,go_sem,Q,o,r,x]) rfl ⟨⟨⟨A,c,b,false,rfl,(og n.o).1,(λ ad h=>bs (bt d ((og n.o).2 ad h))),G,(λ h=>by cases h),λ _=>HF.o⟩⟩,U⟩
   .have B0:=B0.o;have B1:=B1.o;have B2:=B2.o;have D:∀ g,Value.ownBlock (a7 A b.length c)=some g->w1.heap.size<=g:=λ g hg=>(T.o.lt g hg).1;have IJ:=qh D;have aw:=qh (show oh (ps.map (·.data.toList))=(oh ((ps.map (·.data.toList)).drop (k+1))).map ((b ++ [(a:Int)]) ++ ·) by
     rw[N.o,HD.o,UY.o,if_pos rfl,O1])
    clear D N HD UY;obtain⟨uf,F,ug,L,Cc,J,P,C⟩:=ah.z4 B1;go_wp2_with (at_builtin;refine wpList_append_own _ rfl _ _ 54 rfl w1.heap.size 3 i0 (.int .i64 0) 1 8 Tryz.underlying54 an aD aL ap rfl (by decide) _ _ _ rfl (T.o.alloc _) ⟨wr.heap.size,0,none⟩ 1 1 [.int .i64 (a:Nat)] rfl rfl ?c1 ?c2 ?c3 ?c4 ?c5 ?_)
    case c1=>intro j u hj;cases j <;> simp_all[go_sem]
    case c2=>intro u hu;simp only[List.mem_singleton] at hu;subst hu;rfl
    case c3=>unfold maxLen;omega
    case c4=>omega
    case c5=>simp;omega
    intro v2 w3 f l _;have a2:wr.heap.size+1<=w3.heap.size:=by have:=l.size;simpa using this
    have ar:ah w3 w.heap.size 65 #[a4 a5 0,a4 a5 0,a6 ⟨#[]⟩,a7 none 0 0]:=(B0.alloc _).grown l (λ e=>by have:=IJ.o _ e.symm;omega);have M:ah w3 (w.heap.size+1) 65 #[a4 a5 5,a4 a5 0,a6 ⟨#[]⟩,a7 A b.length c]:=(B1.alloc _).grown l (λ e=>by have:=IJ.o _ e.symm;omega);have aq:ah w3 W.heap.size 9 (ps.map bi).toArray:=(B2.alloc _).grown l (λ e=>by have:=IJ.o _ e.symm;omega);have aE:IY w w3:=(H.alloc (by omega) _).grown l (by simp;omega) (λ g hg=>by have:=IJ.o g hg;omega);have Us:=qh (show w3.ownsRow w1.heap.size 3 1 v2 (k+1) (bI a5 (b ++ [(a:Int)])) by rw[xR];exact f);obtain⟨ao,n',I,rfl⟩:∃ ao n' I,v2 = a7 ao n' I:=by
     rcases f.2 with ⟨hv,_⟩ | ⟨g,I,aR,hv,_⟩
     .exact⟨_,_,_,hv⟩
     .exact⟨_,_,_,hv⟩
    clear f l uf F ug L Cc J P C;have P:w3.cell? ⟨w.heap.size+1,3,none⟩=some (a7 A b.length c):=M.cell 3;have C:w3.frozen? ⟨w.heap.size+1,3,none⟩=false:=M.frozen 3;go_wp2;go_roundw
    case rel=>exact⟨k+1,_,b ++ [(a:Int)],by omega,by go_num,qh (ar.far (p:=⟨w.heap.size+1,3,none⟩) (by show w.heap.size≠w.heap.size+1;omega) _),qh (M.eG 3 _),qh (aq.far (p:=⟨w.heap.size+1,3,none⟩) (by show W.heap.size≠w.heap.size+1;omega) _),qh (pX Us.o ay _),aw,aE.setCell (p:=⟨w.heap.size+1,3,none⟩) (by show w.heap.size<=w.heap.size+1;omega) _,by simp[World.setCell];omega⟩
    case measure=>simp[intOf];omega
  .have HF:=qh (show jS s.data.toList=some b by
    rw[HE.o,N.o,bm (by simp;omega)];simp[oh])
   have G:b.length<=2000001:=by have:=al.o;omega
   have B0:=B0.o;have B1:=B1.o;obtain⟨dO,kD,eH,kE,ik,oV,iq,oW⟩:=ah.z4 B0;obtain⟨uf,F,ug,L,Cc,J,P,C⟩:=ah.z4 B1;clear N;go_wp2;obtain⟨W9,y,Y,U⟩:=dW B0 H (a4 a5 5) (a4 a5 0) (a6 ⟨#[]⟩) (a7 A b.length c);have n:=qh (y▸pX (pX (pX (pX T.o d _) d _) d _) d _:W9.ownsRow w1.heap.size 3 1 (a7 A b.length c) k (bI a5 b));rw[<- y];clear y;obtain⟨Q,o,r,x⟩:=ah.c4 Y;refine bodyPost_ret (v:=.tuple #[.agg #[a4 a5 5,a4 a5 0,a6 ⟨#[]⟩,a7 A b.length c],a9 true]) (by simp[results,Tryz.results333,go_sem,Q,o,r,x]) rfl ⟨⟨⟨A,c,b,true,rfl,(og n.o).1,(λ ad h=>bs (bt d ((og n.o).2 ad h))),G,λ _=>HF.o,λ h=>by cases h⟩⟩,U⟩
theorem zJ {l:List UInt8} {a:Nat} (h:dK l=(a,false)):a=0:=by
 unfold dK at h;split at h
 .injection h with h _;exact h.symm
 .split at h
  .injection h with _ h;cases h
  .injection h with h _;exact h.symm
theorem Y4 {y m d:Int} (h:Cal.lW y m d=true):dk y m d=6/\dn y m d=Cal.num y m d:=by unfold dk dn;rw[if_pos h,if_pos h];exact⟨rfl,rfl⟩
theorem adt {y m d:Int} (h:Cal.lW y m d=false):dk y m d=0/\dn y m d=0:=by unfold dk dn;rw[h];exact⟨rfl,rfl⟩
theorem LU {y m d:Int} (h:y=0\/m=0\/d=0):Cal.lW y m d=false:=by
 rw[Bool.eq_false_iff];intro e;rw[Cal.uy] at e;omega
theorem ack {r:List UInt8} (h:(bl r [45]).length≠3):jw r=none:=by
 unfold jw;split
 .rename_i e;rw[e] at h;exact absurd rfl h
 .rfl
theorem O4 (s:ByteArray) (w:World) (hs:s.size<=2000000) (h1:1<=s.size) (hm:Mx w) :
  IE 334 #[a6 s] w (LH 6 (jw s.data.toList.tail)):=by
 have HM:=qh hm;clear hm;have HX:=qh (show (s.extract 1 s.size).data.toList=s.data.toList.tail by
  rw[bn,bo (by simp),List.drop_one])
 have X:(s.extract 1 s.size).size<=2000000:=by rw[ByteArray.size_extract];omega
 go_enter Tryz.func334,Tryz.ntmps334;go_wp2_with fail;obtain⟨W,R⟩:=aC ((w.alloc (.cells #[a4 a5 0,a4 a5 0,a6 ⟨#[]⟩,a7 none 0 0] 65 (0,0))));have a:IY w W:=by rw[R];exact ((Below.refl _ w).alloc (bc _) _)
 have B0:ah W (w.heap.size) 65 #[a4 a5 0,a4 a5 0,a6 ⟨#[]⟩,a7 none 0 0]:=by
  rw[R];have:=ah.new w 65 #[a4 a5 0,a4 a5 0,a6 ⟨#[]⟩,a7 none 0 0];exact this
 have ab:W.heap.size=w.heap.size+1:=by rw[R];simp
 rw[<- R];clear R ab;refine (JO _ 45 W X (HM.o.below a)).mono ?_;rintro e w1 ⟨ps,rfl,c,p,Z⟩;rw[HX.o] at p;have x:IY W w1:=c▸(Below.refl _ W).alloc (bc _) _;have B1:ah w1 W.heap.size 9 (ps.map bi).toArray:=c▸ah.new W _ _;have g:(bl s.data.toList.tail [45]).length=ps.length:=by rw[<- p];simp
 have M:=qh p;have B0:=B0.below x B0.lt;have a:=a.trans (x.mono a.size);have Y:ps.length<=2000001:=by omega
 clear p c x Z;obtain⟨dO,kD,eH,kE,ik,oV,iq,oW⟩:=ah.z4 B0;by_cases h3:ps.length=3;rotate_left
 .have L:=qh (show LH 6 (jw s.data.toList.tail) = .tuple #[.agg #[a4 a5 0,a4 a5 0,a6 ⟨#[]⟩,a7 none 0 0],a9 false] by rw[ack (by rw[g];exact h3)];rfl);have am:(((ps.length:Nat):Int) != 3)=true:=by simp;omega
  clear g h3;go_wp2;obtain⟨W9,q,J,G⟩:=dW B0 a (a4 a5 0) (a4 a5 0) (a6 ⟨#[]⟩) (a7 none 0 0);rw[<- q];clear q;obtain⟨E,f,i,j⟩:=ah.c4 J;refine bodyPost_ret (v:=.tuple #[.agg #[a4 a5 0,a4 a5 0,a6 ⟨#[]⟩,a7 none 0 0],a9 false]) (by simp[results,Tryz.results334,go_sem,E,f,i,j]) rfl ⟨bP L.o.symm,G⟩
 obtain⟨D,C,B,rfl⟩:∃ D C B,ps = [D,C,B]:=by
  rcases ps with _ | ⟨D,_ | ⟨C,_ | ⟨B,_ | ⟨p4,r⟩⟩⟩⟩ <;> simp at h3
  exact⟨_,_,_,rfl⟩
 have Iy:w1.cell? ⟨W.heap.size,0,none⟩=some (a6 D):=B1.cell 0;have WL:w1.cell? ⟨W.heap.size,1,none⟩=some (a6 C):=B1.cell 1;have ac:w1.cell? ⟨W.heap.size,2,none⟩=some (a6 B):=B1.cell 2;obtain⟨y,k,c,H,an⟩:=kN D.data.toList;obtain⟨m,l,t,T,ad⟩:=kN C.data.toList;obtain⟨d,O,u,S,ak⟩:=kN B.data.toList;have F:=qh H;have I:=qh T;have Q:=qh S;have HR:=qh (show jw s.data.toList.tail=if k && l && O && Cal.lW y m d then some (Cal.num y m d) else none by
  unfold jw;rw[<- M.o];simp only[List.map_cons,List.map_nil];rw[c,t,u])
 have U:=qh (show (k=false->y=0)/\(l=false->m=0)/\(O=false->d=0) from
  ⟨λ h=>zJ (h▸c),λ h=>zJ (h▸t),λ h=>zJ (h▸u)⟩)
 clear c t u H T S h3 g M Y;go_wp2_with fail;refine (oC D w1).mono ?_;rw[F.o];rintro e n ⟨rfl,rfl⟩;go_wp2_with fail;refine (oC C w1).mono ?_;rw[I.o];rintro e n ⟨rfl,rfl⟩;go_wp2_with fail;refine (oC B w1).mono ?_;rw[Q.o];rintro e n ⟨rfl,rfl⟩;clear F I Q Iy WL ac dO kD eH kE ik oV iq oW;go_wp2_with fail;refine (YE y m d w1).mono ?_;rintro e n ⟨rfl,z⟩;have B0:=B0.below z B0.lt;have a:=a.trans (z.mono a.size);have ae:=a.size;obtain⟨ok,b⟩:=af (Cal.lW y m d);obtain⟨K,N,hK,hN,hr⟩:∃ K N:Int,dk y m d=K/\dn y m d=N/\((k=true/\l=true/\O=true/\K=6/\LH 6 (jw s.data.toList.tail) = .tuple #[.agg #[a4 a5 6,a4 a5 N,a6 ⟨#[]⟩,a7 none 0 0],a9 true]) \/
   (K=0/\N=0/\LH 6 (jw s.data.toList.tail) = .tuple #[.agg #[a4 a5 0,a4 a5 0,a6 ⟨#[]⟩,a7 none 0 0],a9 false])):=by
  refine⟨_,_,rfl,rfl,?_⟩;rw[HR.o];cases ok
  .right;refine⟨(adt b).1,(adt b).2,?_⟩;rw[b,Bool.and_false,if_neg (by simp)];rfl
  .cases k
   .exact absurd (LU (y:=y) (m:=m) (d:=d) (.inl (by have:=U.o.1 rfl;omega))) (by rw[b];simp)
   .cases l
    .exact absurd (LU (y:=y) (m:=m) (d:=d) (.inr (.inl (by have:=U.o.2.1 rfl;omega)))) (by rw[b];simp)
    .cases O
     .exact absurd (LU (y:=y) (m:=m) (d:=d) (.inr (.inr (by have:=U.o.2.2 rfl;omega)))) (by rw[b];simp)
     .left;refine⟨rfl,rfl,rfl,(Y4 b).1,?_⟩;rw[b,(Y4 b).2];rfl
 rw[hK,hN];clear hK hN b z HR U;go_upto_region 8 with (fail);obtain⟨W3,o⟩:=aC (n.alloc (.cells #[a4 a5 K,a4 a5 N,a6 ⟨#[]⟩,a7 none 0 0] 65 (0,0)));have A:IY n W3:=o▸(Below.refl _ n).alloc (bc _) _;have B3:ah W3 n.heap.size 65 #[a4 a5 K,a4 a5 N,a6 ⟨#[]⟩,a7 none 0 0]:=o▸ah.new n _ _;have al:=B0.lt;have B0:=B0.below A B0.lt;have a:=a.trans (A.mono a.size);rw[<- o];clear o A;obtain⟨dO,kD,eH,kE,ik,oV,iq,oW⟩:=ah.z4 B0;rcases hr with ⟨rfl,rfl,rfl,rfl,P⟩ | ⟨rfl,rfl,P⟩
 .have L:=qh P;clear P;obtain⟨Fq,Fv,aa,V⟩:=ah.c4 B3;go_region
  all_goals
   go_wp2;obtain⟨W9,q,J,G⟩:=dW B0 a (a4 a5 6) (a4 a5 N) (a6 ⟨#[]⟩) (a7 none 0 0);rw[<- q];clear q;obtain⟨E,f,i,j⟩:=ah.c4 J;refine bodyPost_ret (v:=.tuple #[.agg #[a4 a5 6,a4 a5 N,a6 ⟨#[]⟩,a7 none 0 0],a9 true]) (by simp[results,Tryz.results334,go_sem,E,f,i,j]) rfl ⟨bP L.o.symm,G.drew⟩
 .have L:=qh P;clear P;obtain⟨Fq,Fv,aa,V⟩:=ah.c4 B3;cases k <;> cases l <;> cases O
  all_goals
   go_region
   all_goals
    go_wp2;obtain⟨W9,q,J,G⟩:=dW B0 a (a4 a5 0) (a4 a5 0) (a6 ⟨#[]⟩) (a7 none 0 0);rw[<- q];clear q;obtain⟨E,f,i,j⟩:=ah.c4 J;refine bodyPost_ret (v:=.tuple #[.agg #[a4 a5 0,a4 a5 0,a6 ⟨#[]⟩,a7 none 0 0],a9 false]) (by simp[results,Tryz.results334,go_sem,E,f,i,j]) rfl ⟨bP L.o.symm,G.drew⟩
end Go.Proofs.YtcnagconagpkcaaGreatDoor
