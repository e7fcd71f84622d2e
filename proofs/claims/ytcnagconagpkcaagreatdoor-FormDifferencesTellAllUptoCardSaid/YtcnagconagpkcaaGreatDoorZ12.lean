/- Lemmas. -/
import Derived.Test.YtcnagconagpkcaaGreatDoorZ11
import Derived.LoopN
import Derived.RegionTactic
set_option maxHeartbeats 4000000
set_option maxRecDepth 100000
open Go.Value renaming int->a2, string->a4, slice->a5, pointer->a6, bool->a7, string->bg
open Go.IntKind renaming i64->a3
open Go.Ending renaming returned->a8, returned->bb
open Go.Lib renaming hasPrefix->a9, indexByte->be, split->bj, extract_data->bl
open Nat renaming le_refl->ba, le_of_lt->bq, lt_of_lt_of_le->br
open Go.Instr renaming index->bc
open List renaming getD_eq_getElem?_getD->bd, drop_eq_getElem_cons->bh, length_drop->bi, drop_eq_nil_of_le->bk, take_of_length_le->bm, mem_cons_self->bn, mem_cons_of_mem->bo, isPrefixOf->bp
open Array renaming length_toList->bf
namespace Go.Proofs.YtcnagconagpkcaaGreatDoor
open Vtx Go.Lib Dig
theorem iw {s:List UInt8} {i:Nat} {t:Tok} {r:List Tok} (h:wordsOf s i=t :: r):dG s i=some t/\r=wordsOf s (t.at_+t.tx.length):=by
 rw[gZ] at h;split at h
 .cases h
 .rename_i u a;injection h with h1 h2;subst h1;exact⟨a,h2.symm⟩
theorem drop_cons {s:List UInt8} {j:Nat} (h:j<s.length):s.drop j=s.getD j 0 :: s.drop (j+1):=by
 rw[bh h,bd,List.getElem?_eq_getElem h];rfl
theorem sN {s:List UInt8} {i:Nat} {t:Tok} (h:dG s i=some t):∃ w,t.tx=s.getD t.at_ 0 :: w/\s.getD t.at_ 0≠32:=by
 obtain⟨p,g,j,n,f,b,o⟩:=fP h;obtain⟨m,d⟩:∃ m,dA (s.drop t.at_)=m+1:=⟨dA (s.drop t.at_) - 1,by omega⟩;rw[drop_cons g] at b d;rw[d,List.take_succ_cons] at b;refine⟨_,b,?_⟩
 -- the byte behind the blanks is none
 have key:∀ l:List UInt8,∀ k,k=bJ bC l->k<l.length->l.getD k 0≠32:=by
  intro l
  induction l with
  | nil=>intro k _ h;simp at h
  | cons c r ih =>
   intro k a e;rw[bJ] at a;by_cases hc:c=32
   .subst hc;rw[show bC 32=true from rfl,if_pos rfl] at a;subst a;have:=ih _ rfl (by simpa using e);simpa [bd] using this
   .rw[Ja hc,if_neg (by decide)] at a;subst a;simpa [bd] using hc
 have:=key (s.drop i) _ rfl (by rw[bi];omega);rw[bd,List.getElem?_drop,<- f] at this;rw[bd];exact this
theorem Va {s:List UInt8} {i:Nat} {t:Tok} (h:dG s i=some t):t.touch=(decide (t.at_=i) && decide (0<i) && gY (s.getD (i - 1) 0) && gY (s.getD i 0)):=by
 unfold dG at h;split at h
 .injection h with h;rw[<- h];dsimp only;congr 3;exact decide_eq_decide.2 (by omega)
 .cases h
theorem FV {s:List UInt8} {i:Nat} {t:Tok} (h:dG s i=some t) {c:UInt8} {w:List UInt8} (e:t.tx=c :: w) (b:gY c=false):t.touch=false:=by
 obtain⟨w',a,-⟩:=sN h;rw[Va h];by_cases hi:t.at_=i
 .rw[e] at a;injection a with a _;rw[<- hi,<- a,b];simp
 .rw[decide_eq_false hi];rfl
theorem qp {s:List UInt8} {i:Nat} (h:dG s i=none):wordsOf s i = []:=by rw[gZ,h]
theorem J3 {s:List UInt8} {i:Nat} (h:i<s.length) (a:s.getD i 0≠32):∃ u,dG s i=some u/\u.at_=i:=by
 have b:bJ bC (s.drop i)=0:=by rw[drop_cons h,bJ,Ja a];rfl
 unfold dG;rw[b,Nat.add_zero,if_pos h];exact⟨_,rfl,rfl⟩
theorem abQ {s:List UInt8} {i:Nat} {t:Tok} (h:dG s i=some t) (e:t.tx.length=1):JK (t :: wordsOf s (t.at_+t.tx.length))=(decide (t.at_+1<s.length) && fO (s.getD (t.at_+1) 0)):=by
 rw[e];by_cases hl:t.at_+1<s.length
 .rw[decide_eq_true hl,Bool.true_and];cases hu:dG s (t.at_+1) with
  | none =>
   rw[qp hu];by_cases b:s.getD (t.at_+1) 0=32
   .rw[b];rfl
   .obtain⟨u,a,-⟩:=J3 hl b;rw[hu] at a;cases a
  | some u =>
   rw[gZ,hu];obtain⟨w,d,b⟩:=sN hu;have g:=(fP hu).1;by_cases ha:u.at_=t.at_+1
   .show (decide (u.at_=t.at_+1) && (match u.tx with | c :: _=>fO c | []=>false))=_;rw[decide_eq_true ha,d,ha];rfl
   .show (decide (u.at_=t.at_+1) && (match u.tx with | c :: _=>fO c | []=>false))=_;rw[decide_eq_false ha,Bool.false_and];by_cases hb:s.getD (t.at_+1) 0=32
    .rw[hb];rfl
    .obtain⟨u2,a,f⟩:=J3 hl hb;rw[hu] at a;injection a with a;rw[a] at ha;exact absurd f ha
 .rw[decide_eq_false hl,Bool.false_and];have:dG s (t.at_+1)=none:=by
   cases hu:dG s (t.at_+1) with
   | none=>rfl
   | some u =>
    have:=fP hu;omega
  rw[qp this];rfl
theorem yS {s:List UInt8} {t:Tok} {j:Nat} (f:j=t.at_+t.tx.length):pF t (wordsOf s j)=(decide (j<s.length) && decide (s.getD j 0=40)):=by
 by_cases hl:j<s.length
 .rw[decide_eq_true hl,Bool.true_and];cases hu:dG s j with
  | none =>
   rw[qp hu];by_cases b:s.getD j 0=32
   .rw[b];rfl
   .obtain⟨u,a,-⟩:=J3 hl b;rw[hu] at a;cases a
  | some u =>
   rw[gZ,hu];obtain⟨w,g,b⟩:=sN hu;show (decide (u.tx = [40]) && decide (u.at_=t.at_+t.tx.length))=_;by_cases ha:u.at_=j
   .rw[decide_eq_true (ha.trans f),Bool.and_true];refine decide_eq_decide.2 ?_;rw[ha] at g;constructor
    .intro e;rw[g] at e;injection e
    .intro e;have d:=(fP hu).2.2.2.2.2.1;rw[ha,drop_cons hl,e] at d;have h:dA (40 :: s.drop (j+1))=1:=abN (c:=40) (by decide) (by decide) (by decide) (aee (by decide) _);rw[h] at d;exact d
   .rw[show decide (u.at_=t.at_+t.tx.length)=false from decide_eq_false (λ e=>ha (e.trans f.symm)),Bool.and_false];by_cases hb:s.getD j 0=32
    .rw[hb];rfl
    .obtain⟨u2,a,i⟩:=J3 hl hb;rw[hu] at a;injection a with a;rw[a] at ha;exact absurd i ha
 .rw[decide_eq_false hl,Bool.false_and];have:dG s j=none:=by
   cases hu:dG s j with
   | none=>rfl
   | some u =>
    have:=fP hu;omega
  rw[qp this];rfl
end Go.Proofs.YtcnagconagpkcaaGreatDoor
namespace Go.Proofs.YtcnagconagpkcaaGreatDoor
open Go.RowKit Vtx
theorem jv (c:UInt8) (w:World) :
  He 284 #[.int .u8 (c.toNat:Nat)] w (a7 (fO c)):=by
 go_enter Tryz.func284,Tryz.ntmps284;go_wp2
 all_goals (go_ret;exact⟨aj (by unfold fO;rw[Bool.eq_iff_iff];simp;try omega),rfl⟩)
theorem toNat_eq (c:UInt8) (n:Nat) (a:n<256):(c=UInt8.ofNat n) ↔ c.toNat=n:=by
 constructor
 .rintro rfl;simp;omega
 .intro h;apply UInt8.toNat_inj.1;rw[h];simp;omega
theorem Vb (c:UInt8) (w:World) :
  He 285 #[.int .u8 (c.toNat:Nat)] w (a7 (uZ c)):=by
 obtain⟨b,d⟩:=af (fO c);have f:=qh (show uZ c=(b || decide (c.toNat=46)) by unfold uZ;rw[d,show decide (c=46)=decide (c.toNat=46) from decide_eq_decide.2 (toNat_eq c 46 (by decide))]);have H:=qh (show ∀ w',Calls Tryz.prog 284 #[.int .u8 (c.toNat:Nat)] w' λ e a=>e = a8 (a7 b)/\w'=a from λ w'=>by
  have h:=jv c w'
  rwa [d] at h)
 clear d;cases b
 .go_enter Tryz.func285,Tryz.ntmps285;go_wp2_with fail;refine (H.o _).mono ?_;rintro e g ⟨rfl,rfl⟩;go_wp2_with fail
  all_goals (go_ret;exact⟨aj (by rw[f.o];rw[Bool.eq_iff_iff];simp;try omega),rfl⟩)
 .go_enter Tryz.func285,Tryz.ntmps285;go_wp2_with fail;refine (H.o _).mono ?_;rintro e g ⟨rfl,rfl⟩;go_wp2_with fail
  all_goals (go_ret;exact⟨aj (by rw[f.o];rfl),rfl⟩)
theorem Vd (c:UInt8) (w:World) :
  He 286 #[.int .u8 (c.toNat:Nat)] w (a7 (yg c)):=by
 obtain⟨b,d⟩:=af (fO c);have f:=qh (show yg c=(b || decide (c.toNat=45)) by unfold yg;rw[d,show decide (c=45)=decide (c.toNat=45) from decide_eq_decide.2 (toNat_eq c 45 (by decide))]);have H:=qh (show ∀ w',Calls Tryz.prog 284 #[.int .u8 (c.toNat:Nat)] w' λ e a=>e = a8 (a7 b)/\w'=a from λ w'=>by
  have h:=jv c w'
  rwa [d] at h)
 clear d;cases b
 .go_enter Tryz.func286,Tryz.ntmps286;go_wp2_with fail;refine (H.o _).mono ?_;rintro e g ⟨rfl,rfl⟩;go_wp2_with fail
  all_goals (go_ret;exact⟨aj (by rw[f.o];rw[Bool.eq_iff_iff];simp;try omega),rfl⟩)
 .go_enter Tryz.func286,Tryz.ntmps286;go_wp2_with fail;refine (H.o _).mono ?_;rintro e g ⟨rfl,rfl⟩;go_wp2_with fail
  all_goals (go_ret;exact⟨aj (by rw[f.o];rfl),rfl⟩)
theorem nC {s:ByteArray} {i:Nat} (h:i<s.size):s.data.toList.drop i=s[i] :: s.data.toList.drop (i+1):=by
 have a:i<s.data.toList.length:=by rw[bf];exact h
 rw[bh a];rfl
theorem drop_end {s:ByteArray} {i:Nat} (h:s.size<=i):s.data.toList.drop i = []:=bk (by rw[bf];exact h)
theorem mG {s:ByteArray} {p:UInt8->Bool} {i k:Nat} (h:i<s.size) (a:p s[i]=true) (b:k=i+bJ p (s.data.toList.drop i)):k=i+1+bJ p (s.data.toList.drop (i+1)):=by
 rw[b,nC h,bJ,a,if_pos rfl];omega
theorem nV {s:ByteArray} {p:UInt8->Bool} {i k:Nat} (h:i<s.size) (a:p s[i]=false) (b:k=i+bJ p (s.data.toList.drop i)):k=i:=by
 rw[b,nC h,bJ,a,if_neg (by decide)];rfl
theorem qw {s:ByteArray} {p:UInt8->Bool} {i k:Nat} (h:¬ i<s.size) (a:k=i+bJ p (s.data.toList.drop i)):k=i:=by
 rw[a,drop_end (by omega)];rfl
theorem Ve (g:Nat) (s:ByteArray) (k:Nat) (w:World) (u:w.cell? ⟨g,0,none⟩=some (a4 s)) (r:k<=s.size) (v:s.size<=4000) :
  He 283 #[a6 (some ⟨g,0,none⟩),a2 a3 (k:Nat),.func (.func 57) #[] #[]] w (a2 a3 ((k+bJ gY (s.data.toList.drop k):Nat):Int)):=by
 obtain⟨K,h⟩:=af (k+bJ gY (s.data.toList.drop k));have q:=qh h.symm;rw[h];clear h;go_enter Tryz.func283,Tryz.ntmps283;go_wp2_with fail
 go_loop [1] (λ i=>∃ n:Nat,n<=s.size/\i = a2 a3 n/\Hid (K=n+bJ gY (s.data.toList.drop n))) (λ i=>s.size - (intOf i).toNat)
 case atStart=>exact⟨k,r,rfl,q⟩
 case round =>
  obtain⟨n,t,rfl,j⟩:=hrel;by_cases hlt:n<s.size
  .obtain⟨b,f⟩:=af (gY s[n]);have l:=qh f;have d:=qh hlt;have HW:=qh (show Calls Tryz.prog 57 #[.int .u8 (s[n].toNat:Nat)] w λ e a=>e = a8 (a7 b)/\w=a from by
    exact (ji s[n] w).mono λ e a ⟨m,p⟩=>⟨m.trans (congrArg (λ x=>bb (a7 x)) f),p⟩)
   clear f;cases b
   .have c:=qh (nV d.o l.o j.o);go_wp2_with (go_at_call 57;refine HW.o.mono ?_;rintro e o ⟨rfl,rfl⟩);go_ret;exact⟨by rw[c.o];try rfl,rfl⟩
   .have c:=qh (mG d.o l.o j.o);go_wp2_with (go_at_call 57;refine HW.o.mono ?_;rintro e o ⟨rfl,rfl⟩)
    go_round
    case rel=>exact⟨n+1,d.o,by go_num,c⟩
    case measure =>
     have:=d.o;simp[intOf];omega
  .have c:=qh (qw hlt j.o);go_wp2_with fail;go_ret;exact⟨by rw[c.o];try rfl,rfl⟩
theorem QB (g:Nat) (s:ByteArray) (k:Nat) (w:World) (u:w.cell? ⟨g,0,none⟩=some (a4 s)) (r:k<=s.size) (v:s.size<=4000) :
  He 283 #[a6 (some ⟨g,0,none⟩),a2 a3 (k:Nat),.func (.func 285) #[] #[]] w (a2 a3 ((k+bJ uZ (s.data.toList.drop k):Nat):Int)):=by
 obtain⟨K,h⟩:=af (k+bJ uZ (s.data.toList.drop k));have q:=qh h.symm;rw[h];clear h;go_enter Tryz.func283,Tryz.ntmps283;go_wp2_with fail
 go_loop [1] (λ i=>∃ n:Nat,n<=s.size/\i = a2 a3 n/\Hid (K=n+bJ uZ (s.data.toList.drop n))) (λ i=>s.size - (intOf i).toNat)
 case atStart=>exact⟨k,r,rfl,q⟩
 case round =>
  obtain⟨n,t,rfl,j⟩:=hrel;by_cases hlt:n<s.size
  .obtain⟨b,f⟩:=af (uZ s[n]);have l:=qh f;have d:=qh hlt;have HW:=qh (show Calls Tryz.prog 285 #[.int .u8 (s[n].toNat:Nat)] w λ e a=>e = a8 (a7 b)/\w=a from by
    exact (Vb s[n] w).mono λ e a ⟨m,p⟩=>⟨m.trans (congrArg (λ x=>bb (a7 x)) f),p⟩)
   clear f;cases b
   .have c:=qh (nV d.o l.o j.o);go_wp2_with (go_at_call 285;refine HW.o.mono ?_;rintro e o ⟨rfl,rfl⟩);go_ret;exact⟨by rw[c.o];try rfl,rfl⟩
   .have c:=qh (mG d.o l.o j.o);go_wp2_with (go_at_call 285;refine HW.o.mono ?_;rintro e o ⟨rfl,rfl⟩)
    go_round
    case rel=>exact⟨n+1,d.o,by go_num,c⟩
    case measure =>
     have:=d.o;simp[intOf];omega
  .have c:=qh (qw hlt j.o);go_wp2_with fail;go_ret;exact⟨by rw[c.o];try rfl,rfl⟩
theorem Vf (g:Nat) (s:ByteArray) (k:Nat) (w:World) (u:w.cell? ⟨g,0,none⟩=some (a4 s)) (r:k<=s.size) (v:s.size<=4000) :
  He 283 #[a6 (some ⟨g,0,none⟩),a2 a3 (k:Nat),.func (.func 286) #[] #[]] w (a2 a3 ((k+bJ yg (s.data.toList.drop k):Nat):Int)):=by
 obtain⟨K,h⟩:=af (k+bJ yg (s.data.toList.drop k));have q:=qh h.symm;rw[h];clear h;go_enter Tryz.func283,Tryz.ntmps283;go_wp2_with fail
 go_loop [1] (λ i=>∃ n:Nat,n<=s.size/\i = a2 a3 n/\Hid (K=n+bJ yg (s.data.toList.drop n))) (λ i=>s.size - (intOf i).toNat)
 case atStart=>exact⟨k,r,rfl,q⟩
 case round =>
  obtain⟨n,t,rfl,j⟩:=hrel;by_cases hlt:n<s.size
  .obtain⟨b,f⟩:=af (yg s[n]);have l:=qh f;have d:=qh hlt;have HW:=qh (show Calls Tryz.prog 286 #[.int .u8 (s[n].toNat:Nat)] w λ e a=>e = a8 (a7 b)/\w=a from by
    exact (Vd s[n] w).mono λ e a ⟨m,p⟩=>⟨m.trans (congrArg (λ x=>bb (a7 x)) f),p⟩)
   clear f;cases b
   .have c:=qh (nV d.o l.o j.o);go_wp2_with (go_at_call 286;refine HW.o.mono ?_;rintro e o ⟨rfl,rfl⟩);go_ret;exact⟨by rw[c.o];try rfl,rfl⟩
   .have c:=qh (mG d.o l.o j.o);go_wp2_with (go_at_call 286;refine HW.o.mono ?_;rintro e o ⟨rfl,rfl⟩)
    go_round
    case rel=>exact⟨n+1,d.o,by go_num,c⟩
    case measure =>
     have:=d.o;simp[intOf];omega
  .have c:=qh (qw hlt j.o);go_wp2_with fail;go_ret;exact⟨by rw[c.o];try rfl,rfl⟩
theorem Yy (g:Nat) (s:ByteArray) (k:Nat) (w:World) (u:w.cell? ⟨g,0,none⟩=some (a4 s)) (r:k<=s.size) (v:s.size<=4000) :
  He 283 #[a6 (some ⟨g,0,none⟩),a2 a3 (k:Nat),.func (.func 284) #[] #[]] w (a2 a3 ((k+bJ fO (s.data.toList.drop k):Nat):Int)):=by
 obtain⟨K,h⟩:=af (k+bJ fO (s.data.toList.drop k));have q:=qh h.symm;rw[h];clear h;go_enter Tryz.func283,Tryz.ntmps283;go_wp2_with fail
 go_loop [1] (λ i=>∃ n:Nat,n<=s.size/\i = a2 a3 n/\Hid (K=n+bJ fO (s.data.toList.drop n))) (λ i=>s.size - (intOf i).toNat)
 case atStart=>exact⟨k,r,rfl,q⟩
 case round =>
  obtain⟨n,t,rfl,j⟩:=hrel;by_cases hlt:n<s.size
  .obtain⟨b,f⟩:=af (fO s[n]);have l:=qh f;have d:=qh hlt;have HW:=qh (show Calls Tryz.prog 284 #[.int .u8 (s[n].toNat:Nat)] w λ e a=>e = a8 (a7 b)/\w=a from by
    exact (jv s[n] w).mono λ e a ⟨m,p⟩=>⟨m.trans (congrArg (λ x=>bb (a7 x)) f),p⟩)
   clear f;cases b
   .have c:=qh (nV d.o l.o j.o);go_wp2_with (go_at_call 284;refine HW.o.mono ?_;rintro e o ⟨rfl,rfl⟩);go_ret;exact⟨by rw[c.o];try rfl,rfl⟩
   .have c:=qh (mG d.o l.o j.o);go_wp2_with (go_at_call 284;refine HW.o.mono ?_;rintro e o ⟨rfl,rfl⟩)
    go_round
    case rel=>exact⟨n+1,d.o,by go_num,c⟩
    case measure =>
     have:=d.o;simp[intOf];omega
  .have c:=qh (qw hlt j.o);go_wp2_with fail;go_ret;exact⟨by rw[c.o];try rfl,rfl⟩
theorem Yz {s:ByteArray} {i k:Nat} (h:i+1<s.size) (a:s[i]=39) (c:s[i+1]=39) (b:k=i+dV (s.data.toList.drop i)):k=i+2+dV (s.data.toList.drop (i+2)):=by
 have e:dV (s[i] :: s[i+1] :: s.data.toList.drop (i+1+1))=dV (s.data.toList.drop (i+1+1))+2:=by rw[dV,if_neg (by simp[a]),if_pos c]
 rw[b,nC (i:=i) (by omega),nC h,e,show i+1+1=i+2 from rfl];omega
theorem YA {s:ByteArray} {i k:Nat} (h:i+1<s.size) (a:s[i]=39) (c:s[i+1]≠39) (b:k=i+dV (s.data.toList.drop i)):k=i+1:=by
 have e:dV (s[i] :: s[i+1] :: s.data.toList.drop (i+1+1))=1:=by rw[dV,if_neg (by simp[a]),if_neg c]
 rw[b,nC (i:=i) (by omega),nC h,e]
theorem YB {s:ByteArray} {i k:Nat} (h:i<s.size) (b:¬ i+1<s.size) (a:k=i+dV (s.data.toList.drop i)):k=i+1:=by
 rw[a,nC h,drop_end (i:=i+1) (by omega)];rfl
theorem Vg {s:ByteArray} {i k:Nat} (h:i<s.size) (b:s[i]≠39) (a:k=i+dV (s.data.toList.drop i)):k=i+1+dV (s.data.toList.drop (i+1)):=by
 by_cases h2:i+1<s.size
 .have e:dV (s[i] :: s[i+1] :: s.data.toList.drop (i+1+1))=dV (s[i+1] :: s.data.toList.drop (i+1+1))+1:=by rw[dV,if_pos b]
  rw[a,nC h,nC h2,e];omega
 .rw[a,nC h,drop_end (i:=i+1) (by omega)];rfl
theorem YC {s:ByteArray} {i k:Nat} (h:¬ i<s.size) (a:k=i+dV (s.data.toList.drop i)):k=i:=by
 rw[a,drop_end (by omega)];rfl
theorem QC (g:Nat) (s:ByteArray) (k:Nat) (w:World) (q:w.cell? ⟨g,0,none⟩=some (a4 s)) (o:k<s.size) (r:s.size<=4000) :
  He 287 #[a6 (some ⟨g,0,none⟩),a2 a3 (k:Nat)] w (a2 a3 ((k+1+dV (s.data.toList.drop (k+1)):Nat):Int)):=by
 obtain⟨K,f⟩:=af (k+1+dV (s.data.toList.drop (k+1)));have m:=qh f.symm;rw[f];clear f;go_enter Tryz.func287,Tryz.ntmps287;go_wp2_with fail
 go_loop [5] (λ i=>∃ n:Nat,n<=s.size/\i = a2 a3 n/\Hid (K=n+dV (s.data.toList.drop n))) (λ i=>s.size - (intOf i).toNat)
 case atStart=>exact⟨k+1,o,by go_num,m⟩
 case round =>
  obtain⟨n,p,rfl,b⟩:=hrel;by_cases hlt:n<s.size
  .have j:=qh hlt;by_cases qo:s[n].toNat=39
   .have d:s[n]=39:=(toNat_eq s[n] 39 (by decide)).2 qo;by_cases hl2:n+1<s.size
    .have l:((n:Int)+1)<(s.size:Int):=by omega
     by_cases h2:s[n+1].toNat=39
     .have a:=qh (Yz hl2 d ((toNat_eq s[n+1] 39 (by decide)).2 h2) b.o);have c:=qh hl2;have b1:((s[n].toNat:Int) != 39)=false:=by simp;omega
      have b2:((s[n+1].toNat:Int) == 39)=true:=by simp;omega
      clear qo d h2;go_wp2_with fail
      go_round
      case rel=>exact⟨n+2,c.o,by go_num,a⟩
      case measure =>
       have:=c.o;simp[intOf];omega
     .have a:=qh (YA hl2 d (λ e=>h2 ((toNat_eq s[n+1] 39 (by decide)).1 e)) b.o);have b1:((s[n].toNat:Int) != 39)=false:=by simp;omega
      have b2:((s[n+1].toNat:Int) == 39)=false:=by simp;omega
      clear qo d h2;go_wp2_with fail;go_ret;exact⟨by rw[a.o];try rfl,rfl⟩
    .have a:=qh (YB hlt hl2 b.o);have b1:((s[n].toNat:Int) != 39)=false:=by simp;omega
     clear qo d;go_wp2_with fail;go_ret;exact⟨by rw[a.o];try rfl,rfl⟩
   .have a:=qh (Vg hlt (λ e=>qo ((toNat_eq s[n] 39 (by decide)).1 e)) b.o);have b1:((s[n].toNat:Int) != 39)=true:=by simp;omega
    clear qo;go_wp2_with fail
    go_round
    case rel=>exact⟨n+1,j.o,by go_num,a⟩
    case measure =>
     have:=j.o;simp[intOf];omega
  .have a:=qh (YC hlt b.o);have h:n=s.size:=by omega
   go_wp2_with fail;go_ret;exact⟨by rw[a.o,h];try rfl,rfl⟩
theorem zW (s:ByteArray) (i:Nat):(s.extract i s.size).data.toList=s.data.toList.drop i:=by
 rw[bl];exact bm (by rw[bi,bf];exact ba _)
theorem Dt:∀ r:List UInt8,be r 125=if (125:UInt8)∈r then ((nO r:Nat):Int) - 1 else -1
 | []=>by simp[be]
 | b :: l=>by
  rw[be,nO];by_cases hb:b=125
  .subst hb;rw[if_pos (by decide),if_pos (bn ..),if_pos rfl];rfl
  .have c:=Dt l;rw[if_neg (by simpa using hb),if_neg hb,c];by_cases hm:(125:UInt8)∈l
   .have d:1<=nO l:=by
     cases l with
     | nil=>cases hm
     | cons a l=>rw[nO];split <;> omega
    rw[if_pos hm,if_pos (bo _ hm),if_neg (by simp;omega)];omega
   .rw[if_neg hm,if_pos (by decide),if_neg (λ h=>by
     rcases List.mem_cons.1 h with e | e
     .exact hb e.symm
     .exact hm e)]
theorem FW:∀ {r:List UInt8},(125:UInt8) ∉ r->nO r=r.length
 | [],_=>rfl
 | b :: l,h=>by
  rw[nO,if_neg (λ e=>h (by rw[e];exact bn ..)),FW (λ e=>h (bo _ e)),List.length_cons]
theorem J4 (a b c:UInt8) (r:List UInt8):a9 (c :: r) [a,b]=(decide (c=a) && (match r with
  | d :: _=>decide (d=b)
  | []=>false)):=by
 unfold a9;cases r with
 | nil=>simp[bp]
 | cons d r =>
  have h:∀ x y:UInt8,(x == y)=decide (y=x):=λ x y=>by
   by_cases e:y=x
   .subst e;simp
   .rw[decide_eq_false e];simpa using λ h=>e h.symm
  simp[bp,h]
theorem YE (c:UInt8) (r:List UInt8):qM c r=if (a9 (c :: r) [60,62] || a9 (c :: r) [60,61] || a9 (c :: r) [62,61])=true then 2 else 1:=by
 rw[J4,J4,J4];cases r with
 | nil=>simp[qM]
 | cons d r =>
  unfold qM Qc;dsimp only;congr 1;by_cases h1:c=60 <;> by_cases h2:c=62 <;> by_cases h3:d=62 <;> by_cases h4:d=61 <;> simp_all
theorem akx (w:World):(bc 373 (.agg #[.string ⟨#[60,62]⟩,.string ⟨#[60,61]⟩,.string ⟨#[62,61]⟩]) (.int .i64 0)).run Tryz.prog w = .ok (.string ⟨#[60,62]⟩) w:=by simp[bc,run_underlying Tryz.underlying373,go_sem]
theorem aky (w:World):(bc 373 (.agg #[.string ⟨#[60,62]⟩,.string ⟨#[60,61]⟩,.string ⟨#[62,61]⟩]) (.int .i64 1)).run Tryz.prog w = .ok (.string ⟨#[60,61]⟩) w:=by simp[bc,run_underlying Tryz.underlying373,go_sem]
theorem akz (w:World):(bc 373 (.agg #[.string ⟨#[60,62]⟩,.string ⟨#[60,61]⟩,.string ⟨#[62,61]⟩]) (.int .i64 2)).run Tryz.prog w = .ok (.string ⟨#[62,61]⟩) w:=by simp[bc,run_underlying Tryz.underlying373,go_sem]
theorem Du (g:Nat) (s:ByteArray) (i:Nat) (w:World) (D:w.cell? ⟨g,0,none⟩=some (a4 s)) (M:i<s.size) (G:s.size<=4000) :
  He 269 #[a6 (some ⟨g,0,none⟩),a2 a3 (i:Nat)] w (a2 a3 ((i+dA (s.data.toList.drop i):Nat):Int)):=by
 obtain⟨K,c⟩:=af (i+dA (s.data.toList.drop i));rw[c];have n:=nC M;obtain⟨r,p⟩:=af (s.data.toList.drop (i+1));rw[p] at n;rw[n,dA] at c;have V:(0:Int)<=(i:Int):=by omega
 have P:(i:Int)<(s.size:Int):=by omega
 obtain⟨b1,j⟩:=af (pX s[i]);obtain⟨b2,f⟩:=af (fO s[i]);have q:=qh (show Calls Tryz.prog 55 #[.int .u8 (s[i].toNat:Nat)] w λ e d=>e = a8 (a7 b1)/\w=d from by
  exact (oz s[i] w).mono λ e d ⟨H,J⟩=>⟨H.trans (congrArg (λ x=>bb (a7 x)) j),J⟩)
 have t:=qh (show Calls Tryz.prog 284 #[.int .u8 (s[i].toNat:Nat)] w λ e d=>e = a8 (a7 b2)/\w=d from by
  exact (jv s[i] w).mono λ e d ⟨H,J⟩=>⟨H.trans (congrArg (λ x=>bb (a7 x)) f),J⟩)
 rw[j,f] at c;cases b1;rotate_left
 .rw[if_pos rfl] at c;have b:=qh (show ((i:Nat):Int)+((bJ gY (s.data.toList.drop i):Nat):Int)=(K:Nat) by rw[n,bJ,Yu j,if_pos rfl];omega);clear j f c n p;go_enter Tryz.func269,Tryz.ntmps269;go_wp2_with (first | (go_at_call 55;refine q.o.mono ?_;rintro e a ⟨rfl,rfl⟩) | (go_at_call 284;refine t.o.mono ?_;rintro e a ⟨rfl,rfl⟩) | (go_at_call 283;refine (Ve g s (i) _ D (by omega) G).mono ?_;rintro e a ⟨rfl,rfl⟩));go_ret;exact⟨ai b.o,rfl⟩
 rw[if_neg (by decide)] at c;cases b2;rotate_left
 .rw[if_pos rfl] at c;have b:=qh (show ((i:Nat):Int)+((bJ uZ (s.data.toList.drop i):Nat):Int)=(K:Nat) by rw[n,bJ,show uZ s[i]=true by unfold uZ;rw[f];rfl,if_pos rfl];omega);clear j f c n p;go_enter Tryz.func269,Tryz.ntmps269;go_wp2_with (first | (go_at_call 55;refine q.o.mono ?_;rintro e a ⟨rfl,rfl⟩) | (go_at_call 284;refine t.o.mono ?_;rintro e a ⟨rfl,rfl⟩) | (go_at_call 283;refine (QB g s (i) _ D (by omega) G).mono ?_;rintro e a ⟨rfl,rfl⟩));go_ret;exact⟨ai b.o,rfl⟩
 rw[if_neg (by decide)] at c;by_cases h64:s[i]=64
 .rw[if_pos h64] at c;have W:((s[i].toNat:Int) == 64)=true:=by simp;have:=(toNat_eq s[i] 64 (by decide)).1 h64;omega
  have b:=qh (show ((i:Nat):Int)+1+((bJ yg (s.data.toList.drop (i+1)):Nat):Int)=(K:Nat) by rw[p];omega);clear j f c n p h64;go_enter Tryz.func269,Tryz.ntmps269;go_wp2_with (first | (go_at_call 55;refine q.o.mono ?_;rintro e a ⟨rfl,rfl⟩) | (go_at_call 284;refine t.o.mono ?_;rintro e a ⟨rfl,rfl⟩) | (go_at_call 283;refine (Vf g s (i+1) _ D (by omega) G).mono ?_;rintro e a ⟨rfl,rfl⟩));go_ret;exact⟨ai b.o,rfl⟩
 rw[if_neg h64] at c;by_cases h35:s[i]=35
 .rw[if_pos h35] at c;have U:((s[i].toNat:Int) == 35)=true:=by simp;have:=(toNat_eq s[i] 35 (by decide)).1 h35;omega
  have z:((s[i].toNat:Int) == 64)=false:=by simp;exact λ e=>h64 ((toNat_eq s[i] 64 (by decide)).2 (by omega))
  have b:=qh (show ((i:Nat):Int)+1+((bJ fO (s.data.toList.drop (i+1)):Nat):Int)=(K:Nat) by rw[p];omega);clear j f c n p h64 h35;go_enter Tryz.func269,Tryz.ntmps269;go_wp2_with (first | (go_at_call 55;refine q.o.mono ?_;rintro e a ⟨rfl,rfl⟩) | (go_at_call 284;refine t.o.mono ?_;rintro e a ⟨rfl,rfl⟩) | (go_at_call 283;refine (Yy g s (i+1) _ D (by omega) G).mono ?_;rintro e a ⟨rfl,rfl⟩));go_ret;exact⟨ai b.o,rfl⟩
 rw[if_neg h35] at c;by_cases qo:s[i]=39
 .rw[if_pos qo] at c;have T:((s[i].toNat:Int) == 39)=true:=by simp;have:=(toNat_eq s[i] 39 (by decide)).1 qo;omega
  have z:((s[i].toNat:Int) == 64)=false:=by simp;exact λ e=>h64 ((toNat_eq s[i] 64 (by decide)).2 (by omega))
  have E:((s[i].toNat:Int) == 35)=false:=by simp;exact λ e=>h35 ((toNat_eq s[i] 35 (by decide)).2 (by omega))
  have b:=qh (show ((i:Nat):Int)+1+((dV (s.data.toList.drop (i+1)):Nat):Int)=(K:Nat) by rw[p];omega);clear j f c n p h64 h35 qo;go_enter Tryz.func269,Tryz.ntmps269;go_wp2_with (first | (go_at_call 55;refine q.o.mono ?_;rintro e a ⟨rfl,rfl⟩) | (go_at_call 284;refine t.o.mono ?_;rintro e a ⟨rfl,rfl⟩) | (go_at_call 287;refine (QC g s i _ D M G).mono ?_;rintro e a ⟨rfl,rfl⟩));go_ret;exact⟨ai b.o,rfl⟩
 rw[if_neg qo] at c;by_cases iq:s[i]=123
 .rw[if_pos iq] at c;have X:((s[i].toNat:Int) == 123)=true:=by simp;have:=(toNat_eq s[i] 123 (by decide)).1 iq;omega
  have z:((s[i].toNat:Int) == 64)=false:=by simp;exact λ e=>h64 ((toNat_eq s[i] 64 (by decide)).2 (by omega))
  have E:((s[i].toNat:Int) == 35)=false:=by simp;exact λ e=>h35 ((toNat_eq s[i] 35 (by decide)).2 (by omega))
  have I:((s[i].toNat:Int) == 39)=false:=by simp;exact λ e=>qo ((toNat_eq s[i] 39 (by decide)).2 (by omega))
  have u:=qh (show ∀ w',Calls Tryz.prog 288 #[a4 (s.extract i s.size),.int .u8 125] w' λ e d=>e = a8 (a2 a3 (be (s.data.toList.drop i) 125))/\d=w' from λ w'=>by
   have h:=Tryz.strings_IndexByte (s.extract i s.size) 125 w'
   rwa [zW] at h)
  have o:be (s.data.toList.drop i) 125=if (125:UInt8)∈r then ((nO r:Nat):Int) else -1:=by
   rw[n,Dt,iq];have v:((125:UInt8)∈(123:UInt8) :: r) ↔ (125:UInt8)∈r:=by simp
   by_cases h:(125:UInt8)∈r
   .rw[if_pos (v.2 h),if_pos h,nO,if_neg (by decide)];omega
   .rw[if_neg (λ e=>h (v.1 e)),if_neg h]
  have F:r.length+(i+1)=s.size:=by rw[<- p,bi,bf];show s.size - (i+1)+(i+1)=_;omega
  have A:=EX r;by_cases v:(125:UInt8)∈r
  .rw[if_pos v] at o;rw[o] at u;obtain⟨N,O⟩:=af (nO r);rw[O] at u c A;have b:=qh (show ((i:Nat):Int)+(N:Nat)+1=(K:Nat) by omega);have Y:N<=4000:=by omega
   clear j f c n p h64 h35 qo iq v o O A F;go_enter Tryz.func269,Tryz.ntmps269;go_wp2_with (first | (go_at_call 55;refine q.o.mono ?_;rintro e a ⟨rfl,rfl⟩) | (go_at_call 284;refine t.o.mono ?_;rintro e a ⟨rfl,rfl⟩) | (go_at_call 288;refine (u.o _).mono ?_;rintro e a ⟨rfl,rfl⟩));go_ret;exact⟨ai b.o,rfl⟩
  .rw[if_neg v] at o;rw[o] at u;have b:=qh (show ((s.size:Nat):Int)=(K:Nat) by rw[FW v] at c;omega);clear j f c n p h64 h35 qo iq v o A F;go_enter Tryz.func269,Tryz.ntmps269;go_wp2_with (first | (go_at_call 55;refine q.o.mono ?_;rintro e a ⟨rfl,rfl⟩) | (go_at_call 284;refine t.o.mono ?_;rintro e a ⟨rfl,rfl⟩) | (go_at_call 288;refine (u.o _).mono ?_;rintro e a ⟨rfl,rfl⟩));go_ret;exact⟨ai b.o,rfl⟩
 rw[if_neg iq] at c;have z:((s[i].toNat:Int) == 64)=false:=by simp;exact λ e=>h64 ((toNat_eq s[i] 64 (by decide)).2 (by omega))
 have E:((s[i].toNat:Int) == 35)=false:=by simp;exact λ e=>h35 ((toNat_eq s[i] 35 (by decide)).2 (by omega))
 have I:((s[i].toNat:Int) == 39)=false:=by simp;exact λ e=>qo ((toNat_eq s[i] 39 (by decide)).2 (by omega))
 have S:((s[i].toNat:Int) == 123)=false:=by simp;exact λ e=>iq ((toNat_eq s[i] 123 (by decide)).2 (by omega))
 rw[YE] at c;obtain⟨R,y⟩:=af (a9 (s[i] :: r) [60,62]);have m:=qh (show ∀ w',Calls Tryz.prog 58 #[a4 (s.extract i s.size),a4 ⟨#[60,62]⟩] w' λ e d=>e = a8 (a7 R)/\d=w' from λ w'=>by
  have h:=Tryz.strings_HasPrefix (s.extract i s.size) ⟨#[60,62]⟩ w';rw[zW,n] at h
  rwa [y] at h)
 obtain⟨L,C⟩:=af (a9 (s[i] :: r) [60,61]);have k:=qh (show ∀ w',Calls Tryz.prog 58 #[a4 (s.extract i s.size),a4 ⟨#[60,61]⟩] w' λ e d=>e = a8 (a7 L)/\d=w' from λ w'=>by
  have h:=Tryz.strings_HasPrefix (s.extract i s.size) ⟨#[60,61]⟩ w';rw[zW,n] at h
  rwa [C] at h)
 obtain⟨Q,B⟩:=af (a9 (s[i] :: r) [62,61]);have l:=qh (show ∀ w',Calls Tryz.prog 58 #[a4 (s.extract i s.size),a4 ⟨#[62,61]⟩] w' λ e d=>e = a8 (a7 Q)/\d=w' from λ w'=>by
  have h:=Tryz.strings_HasPrefix (s.extract i s.size) ⟨#[62,61]⟩ w';rw[zW,n] at h
  rwa [B] at h)
 have X0:=akx;have X1:=aky;have Z:=akz;rw[y,C,B] at c;clear j f n p h64 h35 qo iq y C B;cases R;rotate_left
 .have b:=qh (show ((i:Nat):Int)+2=(K:Nat) by have h:=(show i+2=K by simpa using c);omega);clear c;go_enter Tryz.func269,Tryz.ntmps269;go_wp2_with (first | (go_at_call 55;refine q.o.mono ?_;rintro e a ⟨rfl,rfl⟩) | (go_at_call 284;refine t.o.mono ?_;rintro e a ⟨rfl,rfl⟩) | fail);refine wp_loop_rounds 4 ?_
  (rw[rounds_succ];go_wp2_with (first | (go_at_call 58;refine (m.o _).mono ?_;rintro e a ⟨rfl,rfl⟩) | (go_at_call 58;refine (k.o _).mono ?_;rintro e a ⟨rfl,rfl⟩) | (go_at_call 58;refine (l.o _).mono ?_;rintro e a ⟨rfl,rfl⟩)))
  go_ret;exact⟨ai b.o,rfl⟩
 cases L;rotate_left
 .have b:=qh (show ((i:Nat):Int)+2=(K:Nat) by have h:=(show i+2=K by simpa using c);omega);clear c;go_enter Tryz.func269,Tryz.ntmps269;go_wp2_with (first | (go_at_call 55;refine q.o.mono ?_;rintro e a ⟨rfl,rfl⟩) | (go_at_call 284;refine t.o.mono ?_;rintro e a ⟨rfl,rfl⟩) | fail);refine wp_loop_rounds 4 ?_
  (rw[rounds_succ];go_wp2_with (first | (go_at_call 58;refine (m.o _).mono ?_;rintro e a ⟨rfl,rfl⟩) | (go_at_call 58;refine (k.o _).mono ?_;rintro e a ⟨rfl,rfl⟩) | (go_at_call 58;refine (l.o _).mono ?_;rintro e a ⟨rfl,rfl⟩)))
  (rw[rounds_succ];go_wp2_with (first | (go_at_call 58;refine (m.o _).mono ?_;rintro e a ⟨rfl,rfl⟩) | (go_at_call 58;refine (k.o _).mono ?_;rintro e a ⟨rfl,rfl⟩) | (go_at_call 58;refine (l.o _).mono ?_;rintro e a ⟨rfl,rfl⟩)))
  go_ret;exact⟨ai b.o,rfl⟩
 cases Q;rotate_left
 .have b:=qh (show ((i:Nat):Int)+2=(K:Nat) by have h:=(show i+2=K by simpa using c);omega);clear c;go_enter Tryz.func269,Tryz.ntmps269;go_wp2_with (first | (go_at_call 55;refine q.o.mono ?_;rintro e a ⟨rfl,rfl⟩) | (go_at_call 284;refine t.o.mono ?_;rintro e a ⟨rfl,rfl⟩) | fail);refine wp_loop_rounds 4 ?_
  (rw[rounds_succ];go_wp2_with (first | (go_at_call 58;refine (m.o _).mono ?_;rintro e a ⟨rfl,rfl⟩) | (go_at_call 58;refine (k.o _).mono ?_;rintro e a ⟨rfl,rfl⟩) | (go_at_call 58;refine (l.o _).mono ?_;rintro e a ⟨rfl,rfl⟩)))
  (rw[rounds_succ];go_wp2_with (first | (go_at_call 58;refine (m.o _).mono ?_;rintro e a ⟨rfl,rfl⟩) | (go_at_call 58;refine (k.o _).mono ?_;rintro e a ⟨rfl,rfl⟩) | (go_at_call 58;refine (l.o _).mono ?_;rintro e a ⟨rfl,rfl⟩)))
  (rw[rounds_succ];go_wp2_with (first | (go_at_call 58;refine (m.o _).mono ?_;rintro e a ⟨rfl,rfl⟩) | (go_at_call 58;refine (k.o _).mono ?_;rintro e a ⟨rfl,rfl⟩) | (go_at_call 58;refine (l.o _).mono ?_;rintro e a ⟨rfl,rfl⟩)))
  go_ret;exact⟨ai b.o,rfl⟩
 have b:=qh (show ((i:Nat):Int)+1=(K:Nat) by have h:=(show i+1=K by simpa using c);omega);clear c;go_enter Tryz.func269,Tryz.ntmps269;go_wp2_with (first | (go_at_call 55;refine q.o.mono ?_;rintro e a ⟨rfl,rfl⟩) | (go_at_call 284;refine t.o.mono ?_;rintro e a ⟨rfl,rfl⟩) | fail);refine wp_loop_rounds 4 ?_
 (rw[rounds_succ];go_wp2_with (first | (go_at_call 58;refine (m.o _).mono ?_;rintro e a ⟨rfl,rfl⟩) | (go_at_call 58;refine (k.o _).mono ?_;rintro e a ⟨rfl,rfl⟩) | (go_at_call 58;refine (l.o _).mono ?_;rintro e a ⟨rfl,rfl⟩)))
 (rw[rounds_succ];go_wp2_with (first | (go_at_call 58;refine (m.o _).mono ?_;rintro e a ⟨rfl,rfl⟩) | (go_at_call 58;refine (k.o _).mono ?_;rintro e a ⟨rfl,rfl⟩) | (go_at_call 58;refine (l.o _).mono ?_;rintro e a ⟨rfl,rfl⟩)))
 (rw[rounds_succ];go_wp2_with (first | (go_at_call 58;refine (m.o _).mono ?_;rintro e a ⟨rfl,rfl⟩) | (go_at_call 58;refine (k.o _).mono ?_;rintro e a ⟨rfl,rfl⟩) | (go_at_call 58;refine (l.o _).mono ?_;rintro e a ⟨rfl,rfl⟩)))
 (rw[rounds_succ];go_wp2_with (first | (go_at_call 58;refine (m.o _).mono ?_;rintro e a ⟨rfl,rfl⟩) | (go_at_call 58;refine (k.o _).mono ?_;rintro e a ⟨rfl,rfl⟩) | (go_at_call 58;refine (l.o _).mono ?_;rintro e a ⟨rfl,rfl⟩)))
 go_ret;exact⟨ai b.o,rfl⟩
end Go.Proofs.YtcnagconagpkcaaGreatDoor
namespace Go.Proofs.YtcnagconagpkcaaGreatDoor
open Go.RowKit Dig Vtx
theorem Tf (s p:ByteArray) (w:World) (c:s.size<=2000000) :
  Calls Tryz.prog 331 #[a4 s,a4 p] w λ e w'=>(∃ t:ByteArray,e = a8 (a4 t)/\t.data.toList=Lib.trimSuffix s.data.toList p.data.toList)/\w=w':=
 (Tryz.strings_TrimSuffix s p w (by omega)).mono λ _ _ ⟨b,a⟩=>⟨⟨_,b,rfl⟩,a.symm⟩
theorem pK {w:World} {B size n g i:Nat} {e:TypeId} {v:Value} {xs:List Value} (h:w.ownsRow B e size v n xs) (o:g<B) (u:Value):(w.setCell ⟨g,i,none⟩ u).ownsRow B e size v n xs:=by
 refine⟨h.1,h.2.imp id ?_⟩;rintro ⟨b,c,a,m,d,l,e3,k,j,f⟩;exact⟨b,c,a,m,d,by rw[Below.heap_setCell w ⟨g,i,none⟩ u b (by show b≠g;omega)];exact l,e3,k,j,f⟩
structure akA (e:Ending) (w:World) (B:Nat) (s:List UInt8):Prop where
 ex:∃ A c l ok,e = a8 (.tuple #[.agg #[a2 a3 5,a2 a3 0,a4 ⟨#[]⟩,a5 A (List.length (α:=Int) l) c],a7 ok])/\Reads w w.heap.size 1 A l.length (bF a3 l)/\(∀ ad,A=some ad->B<=ad.block)/\l.length<=2000001 /\
  (ok=true->jG s=some l)/\(ok=false->jG s=none)
theorem Oa (p:List UInt8) (r:List (List UInt8)) (a:Nat) (b:Bool) (h:dF (Lib.trimPrefix p [35])=(a,b)):nN (p :: r)=if b then (nN r).map ((a:Int) :: ·) else none:=by
 rw[nN,h]
theorem Ob (o:Option (List Int)) (b:List Int) (a:Int):(o.map (a :: ·)).map (b ++ ·)=o.map ((b ++ [a]) ++ ·):=by cases o <;> simp
theorem Oc (s:ByteArray) (w:World) (hs:s.size<=2000000) (hm:Mx w) :
  Calls Tryz.prog 333 #[a4 s] w λ e w'=>akA e w' w.heap.size s.data.toList/\EG w w':=by
 have HM:=qh hm;clear hm;obtain⟨i0,aD,aw,aE,ax⟩:=info_parts JA;go_enter Tryz.func333,Tryz.ntmps333;go_wp2_with fail;obtain⟨W,N⟩:=aH (((w.alloc (.cells #[a2 a3 0,a2 a3 0,a4 ⟨#[]⟩,a5 none 0 0] 65 (0,0))).alloc (.cells #[a2 a3 5,a2 a3 0,a4 ⟨#[]⟩,a5 none 0 0] 65 (0,0))));have l:EG w W:=by rw[N];exact (((Below.refl _ w).alloc (ba _) _).alloc (by simp) _)
 have B0:ag W (w.heap.size) 65 #[a2 a3 0,a2 a3 0,a4 ⟨#[]⟩,a5 none 0 0]:=by
  rw[N];have:=ag.new w 65 #[a2 a3 0,a2 a3 0,a4 ⟨#[]⟩,a5 none 0 0];have:=this.alloc (.cells #[a2 a3 5,a2 a3 0,a4 ⟨#[]⟩,a5 none 0 0] 65 (0,0));exact this
 have B1:ag W (w.heap.size+1) 65 #[a2 a3 5,a2 a3 0,a4 ⟨#[]⟩,a5 none 0 0]:=by
  rw[N];have:=ag.new (w.alloc (.cells #[a2 a3 0,a2 a3 0,a4 ⟨#[]⟩,a5 none 0 0] 65 (0,0))) 65 #[a2 a3 5,a2 a3 0,a4 ⟨#[]⟩,a5 none 0 0]
  rwa [World.size_alloc] at this
 have ap:W.heap.size=w.heap.size+2:=by rw[N];simp
 rw[<- N];clear N ap;refine (JV s ⟨#[123]⟩ W).mono ?_;rintro e w1 ⟨⟨t1,rfl,M⟩,rfl⟩;have aZ:t1.size<=s.size:=by rw[oG M];exact Lib.trimPrefix_le _ _
 have al:=qh M;clear M;go_wp2_with fail;refine (Tf t1 ⟨#[125]⟩ W (by omega)).mono ?_;rintro e w1 ⟨⟨t,rfl,ht⟩,rfl⟩;have a1:t.size<=t1.size:=by rw[oG ht];exact Lib.trimSuffix_le _ _
 rw[al.o] at ht;have HT:=qh (show t.data.toList=ET s.data.toList from ht);clear ht al;obtain⟨dM,jY,eQ,jZ,gW,oH,gX,oI⟩:=ag.z4 B0;obtain⟨xO,R,V,P⟩:=ag.c4 B1;by_cases h0:t=⟨#[]⟩
 .have HE:=qh (show jG s.data.toList=some [] by unfold jG;rw[<- HT.o,h0];rfl);subst h0;go_wp2;obtain⟨W9,y,B9,Q⟩:=dU B0 l (a2 a3 5) (a2 a3 0) (a4 ⟨#[]⟩) (a5 none 0 0);rw[<- y];clear y;obtain⟨Y,n,r,x⟩:=ag.c4 B9;refine bodyPost_ret (v:=.tuple #[.agg #[a2 a3 5,a2 a3 0,a4 ⟨#[]⟩,a5 none 0 0],a7 true]) (by simp[results,Tryz.results333,go_sem,Y,n,r,x]) rfl ⟨⟨⟨none,0,[],true,rfl,Reads.none_,(λ _ h=>by cases h),by simp,λ _=>HE.o,λ h=>by cases h⟩⟩,Q⟩
 have K:t.data.toList≠[]:=λ e=>h0 (vG e);have se:t.toList.isEmpty=false:=by rw[ByteArray.toList_eq];simpa using K
 have HE:=qh (show jG s.data.toList=nN (bj t.data.toList [44]) by unfold jG;rw[<- HT.o,if_neg K]);clear K h0 HT dM jY eQ jZ gW oH gX oI xO R V P;go_wp2_with fail;refine (I7 t 44 W (by omega) (HM.o.below l)).mono ?_;rintro e w1 ⟨ps,rfl,z,U,aq⟩;have C:EG W w1:=z▸(Below.refl _ W).alloc (ba _) _;have S:w1.heap.size=W.heap.size+1:=by rw[z];simp
 have B2:ag w1 W.heap.size 9 (ps.map bg).toArray:=z▸ag.new W _ _;rw[<- U] at HE;have T:=B1.lt;have B0:=B0.below C B0.lt;have B1:=B1.below C B1.lt;have l:=l.trans (C.mono l.size);have aX:ps.length<=2000001:=by omega
 have aL:W.heap.size<w1.heap.size:=by omega
 have ac:=qh B0;have ak:=qh B1;have ae:=qh B2;have d:w.heap.size<w1.heap.size:=B0.lt;have ar:w.heap.size+1<w1.heap.size:=B1.lt;have aM:w.heap.size+1<W.heap.size:=T;clear U z C aq S B0 B1 B2 T;go_wp2;go_loopw [19] (λ i wr=>∃ (k:Nat) (v:Value) (b:List Int),k<=ps.length/\i = a2 a3 k/\Hid (ag wr w.heap.size 65 #[a2 a3 0,a2 a3 0,a4 ⟨#[]⟩,a5 none 0 0])/\Hid (ag wr (w.heap.size+1) 65 #[a2 a3 5,a2 a3 0,a4 ⟨#[]⟩,v])/\Hid (ag wr W.heap.size 9 (ps.map bg).toArray) /\
   Hid (wr.ownsRow w1.heap.size 3 1 v k (bF a3 b))/\Hid (nN (ps.map (·.data.toList))=(nN ((ps.map (·.data.toList)).drop k)).map (b ++ ·))/\EG w wr/\w1.heap.size<=wr.heap.size) (λ i _=>ps.length - (intOf i).toNat)
 case atStart=>exact⟨0,_,[],Nat.zero_le _,rfl,ac,ak,ae,qh (World.ownsRow_nil _ _ _ _),qh (by simp),l,ba _⟩
 case round =>
  obtain⟨k,v,b,hk,rfl,B0,B1,B2,HO,O,J,eY⟩:=hrel;clear ac ak ae;obtain⟨ab,A,c,rfl,-⟩:=vS HO.o;have am:=qh ab;clear ab;by_cases hlt:k<ps.length
  .obtain⟨p,hp⟩:=af (ps[k]);have pc:wr.cell? ⟨W.heap.size,k,none⟩=some (a4 p):=by rw[B2.o.cell k];simp[hlt,hp]
   have HD:=qh (show (ps.map (·.data.toList)).drop k=p.data.toList :: (ps.map (·.data.toList)).drop (k+1) by
    rw[bh (by simpa using hlt),List.getElem_map,hp])
   clear hp;go_wp2_with fail;refine (JV p ⟨#[35]⟩ wr).mono ?_;rintro e w2 ⟨⟨q,rfl,hq⟩,rfl⟩;obtain⟨a,ok,Z,X,ha⟩:=kJ q.data.toList;have aa:=qh X;have Uy:=qh (Oa p.data.toList ((ps.map (·.data.toList)).drop (k+1)) a ok (by rw[<- Z,hq]));clear hq Z X pc;go_wp2_with fail;refine (nS q wr).mono ?_;rw[aa.o];rintro e w2 ⟨rfl,rfl⟩;clear aa;cases ok
   .have HF:=qh (show jG s.data.toList=none by
     rw[HE.o,O.o,HD.o,Uy.o];rfl)
    have F:b.length<=2000001:=by have:=am.o;omega
    have B0:=B0.o;have B1:=B1.o;obtain⟨dM,jY,eQ,jZ,gW,oH,gX,oI⟩:=ag.z4 B0;obtain⟨xO,H,R,L,V,I,P,B⟩:=ag.z4 B1;clear O HD Uy;go_wp2;obtain⟨W9,y,B9,Q⟩:=dU B0 J (a2 a3 5) (a2 a3 0) (a4 ⟨#[]⟩) (a5 A b.length c);have o:=qh (y▸pK (pK (pK (pK HO.o d _) d _) d _) d _:W9.ownsRow w1.heap.size 3 1 (a5 A b.length c) k (bF a3 b));rw[<- y];clear y;obtain⟨Y,n,r,x⟩:=ag.c4 B9;refine bodyPost_ret (v:=.tuple #[.agg #[a2 a3 5,a2 a3 0,a4 ⟨#[]⟩,a5 A b.length c],a7 false]) (by simp[results,Tryz.results333,go_sem,Y,n,r,x]) rfl ⟨⟨⟨A,c,b,false,rfl,(pV o.o).1,(λ ad h=>bq (br d ((pV o.o).2 ad h))),F,(λ h=>by cases h),λ _=>HF.o⟩⟩,Q⟩
   .have B0:=B0.o;have B1:=B1.o;have B2:=B2.o;have D:∀ g,Value.ownBlock (a5 A b.length c)=some g->w1.heap.size<=g:=λ g hg=>(HO.o.lt g hg).1;have MR:=qh D;have aA:=qh (show nN (ps.map (·.data.toList))=(nN ((ps.map (·.data.toList)).drop (k+1))).map ((b ++ [(a:Int)]) ++ ·) by
     rw[O.o,HD.o,Uy.o,if_pos rfl,Ob])
    clear D O HD Uy;obtain⟨xO,H,R,L,V,I,P,B⟩:=ag.z4 B1;go_wp2_with (at_builtin;refine wpList_append_own _ rfl _ _ 54 rfl w1.heap.size 3 i0 (.int .i64 0) 1 8 Tryz.underlying54 aD aw aE ax rfl (by decide) _ _ _ rfl (HO.o.alloc _) ⟨wr.heap.size,0,none⟩ 1 1 [.int .i64 (a:Nat)] rfl rfl ?c1 ?c2 ?c3 ?c4 ?c5 ?_)
    case c1=>intro j u hj;cases j <;> simp_all[go_sem]
    case c2=>intro u hu;simp only[List.mem_singleton] at hu;subst hu;rfl
    case c3=>unfold maxLen;omega
    case c4=>omega
    case c5=>simp;omega
    intro v2 w3 f m _;have aR:wr.heap.size+1<=w3.heap.size:=by have:=m.size;simpa using this
    have av:ag w3 w.heap.size 65 #[a2 a3 0,a2 a3 0,a4 ⟨#[]⟩,a5 none 0 0]:=(B0.alloc _).grown m (λ e=>by have:=MR.o _ e.symm;omega);have G:ag w3 (w.heap.size+1) 65 #[a2 a3 5,a2 a3 0,a4 ⟨#[]⟩,a5 A b.length c]:=(B1.alloc _).grown m (λ e=>by have:=MR.o _ e.symm;omega);have an:ag w3 W.heap.size 9 (ps.map bg).toArray:=(B2.alloc _).grown m (λ e=>by have:=MR.o _ e.symm;omega);have ay:EG w w3:=(J.alloc (by omega) _).grown m (by simp;omega) (λ g hg=>by have:=MR.o g hg;omega);have Xd:=qh (show w3.ownsRow w1.heap.size 3 1 v2 (k+1) (bF a3 (b ++ [(a:Int)])) by rw[Bj];exact f);obtain⟨ao,n',E,rfl⟩:∃ ao n' E,v2 = a5 ao n' E:=by
     rcases f.2 with ⟨hv,_⟩ | ⟨g,E,a0,hv,_⟩
     .exact⟨_,_,_,hv⟩
     .exact⟨_,_,_,hv⟩
    clear f m xO H R L V I P B;have P:w3.cell? ⟨w.heap.size+1,3,none⟩=some (a5 A b.length c):=G.cell 3;have B:w3.frozen? ⟨w.heap.size+1,3,none⟩=false:=G.frozen 3;go_wp2;go_roundw
    case rel=>exact⟨k+1,_,b ++ [(a:Int)],by omega,by go_num,qh (av.far (p:=⟨w.heap.size+1,3,none⟩) (by show w.heap.size≠w.heap.size+1;omega) _),qh (G.dS 3 _),qh (an.far (p:=⟨w.heap.size+1,3,none⟩) (by show W.heap.size≠w.heap.size+1;omega) _),qh (pK Xd.o ar _),aA,ay.setCell (p:=⟨w.heap.size+1,3,none⟩) (by show w.heap.size<=w.heap.size+1;omega) _,by simp[World.setCell];omega⟩
    case measure=>simp[intOf];omega
  .have HF:=qh (show jG s.data.toList=some b by
    rw[HE.o,O.o,bk (by simp;omega)];simp[nN])
   have F:b.length<=2000001:=by have:=am.o;omega
   have B0:=B0.o;have B1:=B1.o;obtain⟨dM,jY,eQ,jZ,gW,oH,gX,oI⟩:=ag.z4 B0;obtain⟨xO,H,R,L,V,I,P,B⟩:=ag.z4 B1;clear O;go_wp2;obtain⟨W9,y,B9,Q⟩:=dU B0 J (a2 a3 5) (a2 a3 0) (a4 ⟨#[]⟩) (a5 A b.length c);have o:=qh (y▸pK (pK (pK (pK HO.o d _) d _) d _) d _:W9.ownsRow w1.heap.size 3 1 (a5 A b.length c) k (bF a3 b));rw[<- y];clear y;obtain⟨Y,n,r,x⟩:=ag.c4 B9;refine bodyPost_ret (v:=.tuple #[.agg #[a2 a3 5,a2 a3 0,a4 ⟨#[]⟩,a5 A b.length c],a7 true]) (by simp[results,Tryz.results333,go_sem,Y,n,r,x]) rfl ⟨⟨⟨A,c,b,true,rfl,(pV o.o).1,(λ ad h=>bq (br d ((pV o.o).2 ad h))),F,λ _=>HF.o,λ h=>by cases h⟩⟩,Q⟩
theorem yT {l:List UInt8} {a:Nat} (h:dF l=(a,false)):a=0:=by
 unfold dF at h;split at h
 .injection h with h _;exact h.symm
 .split at h
  .injection h with _ h;cases h
  .injection h with h _;exact h.symm
theorem YF {y m d:Int} (h:Cal.lT y m d=true):dk y m d=6/\dn y m d=Cal.num y m d:=by unfold dk dn;rw[if_pos h,if_pos h];exact⟨rfl,rfl⟩
theorem ac5 {y m d:Int} (h:Cal.lT y m d=false):dk y m d=0/\dn y m d=0:=by unfold dk dn;rw[h];exact⟨rfl,rfl⟩
theorem J5 {y m d:Int} (h:y=0\/m=0\/d=0):Cal.lT y m d=false:=by
 rw[Bool.eq_false_iff];intro e;rw[Cal.tX] at e;omega
theorem abR {r:List UInt8} (h:(bj r [45]).length≠3):jm r=none:=by
 unfold jm;split
 .rename_i e;rw[e] at h;exact absurd rfl h
 .rfl
theorem Oe (s:ByteArray) (w:World) (hs:s.size<=2000000) (h1:1<=s.size) (hm:Mx w) :
  CS 334 #[a4 s] w (JW 6 (jm s.data.toList.tail)):=by
 have HM:=qh hm;clear hm;have HX:=qh (show (s.extract 1 s.size).data.toList=s.data.toList.tail by
  rw[bl,bm (by simp),List.drop_one])
 have V:(s.extract 1 s.size).size<=2000000:=by rw[ByteArray.size_extract];omega
 go_enter Tryz.func334,Tryz.ntmps334;go_wp2_with fail;obtain⟨W,I⟩:=aH ((w.alloc (.cells #[a2 a3 0,a2 a3 0,a4 ⟨#[]⟩,a5 none 0 0] 65 (0,0))));have a:EG w W:=by rw[I];exact ((Below.refl _ w).alloc (ba _) _)
 have B0:ag W (w.heap.size) 65 #[a2 a3 0,a2 a3 0,a4 ⟨#[]⟩,a5 none 0 0]:=by
  rw[I];have:=ag.new w 65 #[a2 a3 0,a2 a3 0,a4 ⟨#[]⟩,a5 none 0 0];exact this
 have ab:W.heap.size=w.heap.size+1:=by rw[I];simp
 rw[<- I];clear I ab;refine (I7 _ 45 W V (HM.o.below a)).mono ?_;rintro e w1 ⟨ps,rfl,c,p,ac⟩;rw[HX.o] at p;have A:EG W w1:=c▸(Below.refl _ W).alloc (ba _) _;have B1:ag w1 W.heap.size 9 (ps.map bg).toArray:=c▸ag.new W _ _;have i:(bj s.data.toList.tail [45]).length=ps.length:=by rw[<- p];simp
 have L:=qh p;have B0:=B0.below A B0.lt;have a:=a.trans (A.mono a.size);have aa:ps.length<=2000001:=by omega
 clear p c A ac;obtain⟨dM,jY,eQ,jZ,gW,oH,gX,oI⟩:=ag.z4 B0;by_cases h3:ps.length=3;rotate_left
 .have Q:=qh (show JW 6 (jm s.data.toList.tail) = .tuple #[.agg #[a2 a3 0,a2 a3 0,a4 ⟨#[]⟩,a5 none 0 0],a7 false] by rw[abR (by rw[i];exact h3)];rfl);have ak:(((ps.length:Nat):Int) != 3)=true:=by simp;omega
  clear i h3;go_wp2;obtain⟨W9,t,R,G⟩:=dU B0 a (a2 a3 0) (a2 a3 0) (a4 ⟨#[]⟩) (a5 none 0 0);rw[<- t];clear t;obtain⟨O,g,k,n⟩:=ag.c4 R;refine bodyPost_ret (v:=.tuple #[.agg #[a2 a3 0,a2 a3 0,a4 ⟨#[]⟩,a5 none 0 0],a7 false]) (by simp[results,Tryz.results334,go_sem,O,g,k,n]) rfl ⟨dC Q.o.symm,G⟩
 obtain⟨C,E,D,rfl⟩:∃ C E D,ps = [C,E,D]:=by
  rcases ps with _ | ⟨C,_ | ⟨E,_ | ⟨D,_ | ⟨p4,r⟩⟩⟩⟩ <;> simp at h3
  exact⟨_,_,_,rfl⟩
 have UH:w1.cell? ⟨W.heap.size,0,none⟩=some (a4 C):=B1.cell 0;have ad:w1.cell? ⟨W.heap.size,1,none⟩=some (a4 E):=B1.cell 1;have Z:w1.cell? ⟨W.heap.size,2,none⟩=some (a4 D):=B1.cell 2;obtain⟨y,j,c,S,am⟩:=kJ C.data.toList;obtain⟨m,f,u,T,al⟩:=kJ E.data.toList;obtain⟨d,l,x,J,ae⟩:=kJ D.data.toList;have F:=qh S;have H:=qh T;have M:=qh J;have HR:=qh (show jm s.data.toList.tail=if j && f && l && Cal.lT y m d then some (Cal.num y m d) else none by
  unfold jm;rw[<- L.o];simp only[List.map_cons,List.map_nil];rw[c,u,x])
 have U:=qh (show (j=false->y=0)/\(f=false->m=0)/\(l=false->d=0) from
  ⟨λ h=>yT (h▸c),λ h=>yT (h▸u),λ h=>yT (h▸x)⟩)
 clear c u x S T J h3 i L aa;go_wp2_with fail;refine (nS C w1).mono ?_;rw[F.o];rintro e o ⟨rfl,rfl⟩;go_wp2_with fail;refine (nS E w1).mono ?_;rw[H.o];rintro e o ⟨rfl,rfl⟩;go_wp2_with fail;refine (nS D w1).mono ?_;rw[M.o];rintro e o ⟨rfl,rfl⟩;clear F H M UH ad Z dM jY eQ jZ gW oH gX oI;go_wp2_with fail;refine (Ye y m d w1).mono ?_;rintro e o ⟨rfl,z⟩;have B0:=B0.below z B0.lt;have a:=a.trans (z.mono a.size);have an:=a.size;obtain⟨ok,b⟩:=af (Cal.lT y m d);obtain⟨K,N,hK,hN,hr⟩:∃ K N:Int,dk y m d=K/\dn y m d=N/\((j=true/\f=true/\l=true/\K=6/\JW 6 (jm s.data.toList.tail) = .tuple #[.agg #[a2 a3 6,a2 a3 N,a4 ⟨#[]⟩,a5 none 0 0],a7 true]) \/
   (K=0/\N=0/\JW 6 (jm s.data.toList.tail) = .tuple #[.agg #[a2 a3 0,a2 a3 0,a4 ⟨#[]⟩,a5 none 0 0],a7 false])):=by
  refine⟨_,_,rfl,rfl,?_⟩;rw[HR.o];cases ok
  .right;refine⟨(ac5 b).1,(ac5 b).2,?_⟩;rw[b,Bool.and_false,if_neg (by simp)];rfl
  .cases j
   .exact absurd (J5 (y:=y) (m:=m) (d:=d) (.inl (by have:=U.o.1 rfl;omega))) (by rw[b];simp)
   .cases f
    .exact absurd (J5 (y:=y) (m:=m) (d:=d) (.inr (.inl (by have:=U.o.2.1 rfl;omega)))) (by rw[b];simp)
    .cases l
     .exact absurd (J5 (y:=y) (m:=m) (d:=d) (.inr (.inr (by have:=U.o.2.2 rfl;omega)))) (by rw[b];simp)
     .left;refine⟨rfl,rfl,rfl,(YF b).1,?_⟩;rw[b,(YF b).2];rfl
 rw[hK,hN];clear hK hN b z HR U;go_upto_region 8 with (fail);obtain⟨W3,q⟩:=aH (o.alloc (.cells #[a2 a3 K,a2 a3 N,a4 ⟨#[]⟩,a5 none 0 0] 65 (0,0)));have B:EG o W3:=q▸(Below.refl _ o).alloc (ba _) _;have B3:ag W3 o.heap.size 65 #[a2 a3 K,a2 a3 N,a4 ⟨#[]⟩,a5 none 0 0]:=q▸ag.new o _ _;have ao:=B0.lt;have B0:=B0.below B B0.lt;have a:=a.trans (B.mono a.size);rw[<- q];clear q B;obtain⟨dM,jY,eQ,jZ,gW,oH,gX,oI⟩:=ag.z4 B0;rcases hr with ⟨rfl,rfl,rfl,rfl,P⟩ | ⟨rfl,rfl,P⟩
 .have Q:=qh P;clear P;obtain⟨RY,RZ,X,Y⟩:=ag.c4 B3;go_region
  all_goals
   go_wp2;obtain⟨W9,t,R,G⟩:=dU B0 a (a2 a3 6) (a2 a3 N) (a4 ⟨#[]⟩) (a5 none 0 0);rw[<- t];clear t;obtain⟨O,g,k,n⟩:=ag.c4 R;refine bodyPost_ret (v:=.tuple #[.agg #[a2 a3 6,a2 a3 N,a4 ⟨#[]⟩,a5 none 0 0],a7 true]) (by simp[results,Tryz.results334,go_sem,O,g,k,n]) rfl ⟨dC Q.o.symm,G.drew⟩
 .have Q:=qh P;clear P;obtain⟨RY,RZ,X,Y⟩:=ag.c4 B3;cases j <;> cases f <;> cases l
  all_goals
   go_region
   all_goals
    go_wp2;obtain⟨W9,t,R,G⟩:=dU B0 a (a2 a3 0) (a2 a3 0) (a4 ⟨#[]⟩) (a5 none 0 0);rw[<- t];clear t;obtain⟨O,g,k,n⟩:=ag.c4 R;refine bodyPost_ret (v:=.tuple #[.agg #[a2 a3 0,a2 a3 0,a4 ⟨#[]⟩,a5 none 0 0],a7 false]) (by simp[results,Tryz.results334,go_sem,O,g,k,n]) rfl ⟨dC Q.o.symm,G.drew⟩
end Go.Proofs.YtcnagconagpkcaaGreatDoor
