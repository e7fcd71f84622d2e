/- Lemmas. -/
import Derived.Test.YtcnagconagpkcaaGreatDoorZ4
import Derived.Lib.AppendIntMem
open Go.Value renaming int->al, string->an, slice->ao, bool->ap, string->aw, tuple->bq
open Go.IntKind renaming i64->am
open Go.Ending renaming returned->aq
open Nat renaming le_refl->ar, zero_le->av, lt_or_ge->a2, le_trans->bb, pow_le_pow_right->bm
open Go.Lib renaming join->ax, itoa->aV, cut->a3, trimPrefix->bn, splitB_all->bp, join_cons->br
open List renaming getElem_mem->ay, take_succ_eq_append_getElem->aD, take_of_length_le->aE, mem_cons_self->aL, map_cons->aM, mem_singleton->aR, all_eq_true->aZ, mem_append->a0, isPrefixOf->a1, length_append->a4, mem_cons_of_mem->a5, length_cons->a6, flatMap_cons->a9, mem_cons->ba, replicate->bc, append_nil->bd, append_assoc->be, cons_append->bf, map_nil->bg, isSuffixOf_iff_suffix->bh, tail_cons->bi, all_cons->bj, map_append->bs
open Array renaming getElem?_eq_none->a7
open Bool renaming or_eq_false_iff->a8, and_eq_true->bk, eq_false_iff->bl
set_option maxHeartbeats 4000000
set_option maxRecDepth 100000
namespace Go.Proofs.YtcnagconagpkcaaGreatDoor
open Tryz
open Tryz renaming prog->lM
section
open Go.RowKit
attribute [local go_sem ↓] Go.wp_at_zero Go.wp_at_succ
def kP (_w:World) (_B:Nat) (d:ByteArray × Int) (cs:List Value):Prop:=cs = [an d.1,al am d.2]
def lY (l:List (ByteArray × Int)):List Value:=l.flatMap (λ d=>[an d.1,al am d.2])
theorem IC:∀ l:List (ByteArray × Int),(lY l).length=l.length*2
 | []=>rfl
 | d :: r=>by
  have:=IC r;unfold lY at *;rw[a9,a4,this];simp[Nat.succ_mul,Nat.add_comm]
theorem E8:∀ (l:List (ByteArray × Int)) (i:Nat) (h:i<l.length),((lY l).drop (i*2)).take 2 = [an l[i].1,al am l[i].2]
 | d :: r,0,_=>by simp[lY]
 | d :: r,i+1,h=>by
  have:=E8 r i (by simpa using h);unfold lY at *;rw[a9,show (i+1)*2=2+i*2 by omega,<- List.drop_drop];simpa using this
theorem vF {w:World} {g B:Nat} {t:TypeId} {l:List (ByteArray × Int)} (h:ah w g t (lY l).toArray) (c:g<B) (d:l.length<=maxLen):aF kP 2 w B (some ⟨g,0,none⟩) l:=by
 refine⟨d,lY l,⟨IC l,λ _=>⟨_,rfl,c,λ j u b=>?_⟩⟩,λ i a=>E8 l i a⟩;have e:(⟨g,0,none⟩:Addr).add j=⟨g,j,none⟩:=by unfold Addr.add;split <;> simp_all
 rw[e,h.cell j];simpa using b
def eU:List (ByteArray × Int):=[(⟨#[61]⟩,4),(⟨#[60,62]⟩,5),(⟨#[60]⟩,6),(⟨#[60,61]⟩,7),(⟨#[62]⟩,8),(⟨#[62,61]⟩,9),(⟨#[105,110]⟩,10),(⟨#[104,97,115]⟩,11)]
theorem NH (w:World):Calls lM 278 #[] w λ e w'=>∃ ad,e = aq (ao (some ad) 8 8)/\aF kP 2 w' w'.heap.size (some ad) eU/\DD w w':=by
 go_enter func278,ntmps278;go_wp2_with fail;go_ret;have e:(lY eU).toArray = #[an ⟨#[61]⟩,al am 4,an ⟨#[60,62]⟩,al am 5,an ⟨#[60]⟩,al am 6,an ⟨#[60,61]⟩,al am 7,an ⟨#[62]⟩,al am 8,an ⟨#[62,61]⟩,al am 9,an ⟨#[105,110]⟩,al am 10,an ⟨#[104,97,115]⟩,al am 11]:=by kernel_rfl
 exact⟨_,rfl,vF (t:=359) (by rw[e];exact ah.new w 359 #[an ⟨#[61]⟩,al am 4,an ⟨#[60,62]⟩,al am 5,an ⟨#[60]⟩,al am 6,an ⟨#[60,61]⟩,al am 7,an ⟨#[62]⟩,al am 8,an ⟨#[62,61]⟩,al am 9,an ⟨#[105,110]⟩,al am 10,an ⟨#[104,97,115]⟩,al am 11]) (by simp) (by decide),(Below.refl _ w).alloc (ar _) _⟩
def iL:List (ByteArray × Int):=[(⟨#[43]⟩,15),(⟨#[45]⟩,16)]
theorem Yl (w:World):Calls lM 279 #[] w λ e w'=>∃ ad,e = aq (ao (some ad) 2 2)/\aF kP 2 w' w'.heap.size (some ad) iL/\DD w w':=by
 go_enter func279,ntmps279;go_wp2_with fail;go_ret;have e:(lY iL).toArray = #[an ⟨#[43]⟩,al am 15,an ⟨#[45]⟩,al am 16]:=by kernel_rfl
 exact⟨_,rfl,vF (t:=359) (by rw[e];exact ah.new w 359 #[an ⟨#[43]⟩,al am 15,an ⟨#[45]⟩,al am 16]) (by simp) (by decide),(Below.refl _ w).alloc (ar _) _⟩
def iM:List (ByteArray × Int):=[(⟨#[42]⟩,17),(⟨#[47]⟩,18),(⟨#[109,111,100]⟩,19)]
theorem Ym (w:World):Calls lM 280 #[] w λ e w'=>∃ ad,e = aq (ao (some ad) 3 3)/\aF kP 2 w' w'.heap.size (some ad) iM/\DD w w':=by
 go_enter func280,ntmps280;go_wp2_with fail;go_ret;have e:(lY iM).toArray = #[an ⟨#[42]⟩,al am 17,an ⟨#[47]⟩,al am 18,an ⟨#[109,111,100]⟩,al am 19]:=by kernel_rfl
 exact⟨_,rfl,vF (t:=359) (by rw[e];exact ah.new w 359 #[an ⟨#[42]⟩,al am 17,an ⟨#[47]⟩,al am 18,an ⟨#[109,111,100]⟩,al am 19]) (by simp) (by decide),(Below.refl _ w).alloc (ar _) _⟩
def dZ:List (ByteArray × Int):=[(⟨#[97,110,115,119,101,114,101,100]⟩,12),(⟨#[97,115,107,101,100]⟩,13),(⟨#[114,101,97,115,111,110]⟩,14),(⟨#[97,98,115]⟩,21),(⟨#[102,108,111,111,114]⟩,22),(⟨#[114,111,117,110,100]⟩,23),(⟨#[109,105,110]⟩,24),(⟨#[109,97,120]⟩,25),(⟨#[105,102]⟩,26),(⟨#[101,108,115,101]⟩,27),(⟨#[115,105,122,101]⟩,28),(⟨#[99,111,100,101]⟩,29),(⟨#[108,111,119,101,114]⟩,30),(⟨#[106,111,105,110]⟩,31),(⟨#[98,101,103,105,110,115]⟩,32),(⟨#[104,111,108,100,115]⟩,33),(⟨#[121,101,97,114]⟩,34),(⟨#[109,111,110,116,104]⟩,35),(⟨#[100,97,121]⟩,36),(⟨#[100,97,121,115]⟩,37),(⟨#[97,103,101]⟩,38),(⟨#[108,97,116,101,114]⟩,39)]
theorem NI (w:World):Calls lM 266 #[] w λ e w'=>∃ ad,e = aq (ao (some ad) 22 22)/\aF kP 2 w' w'.heap.size (some ad) dZ/\DD w w':=by
 go_enter func266,ntmps266;go_wp2_with fail;go_ret;have e:(lY dZ).toArray = #[an ⟨#[97,110,115,119,101,114,101,100]⟩,al am 12,an ⟨#[97,115,107,101,100]⟩,al am 13,an ⟨#[114,101,97,115,111,110]⟩,al am 14,an ⟨#[97,98,115]⟩,al am 21,an ⟨#[102,108,111,111,114]⟩,al am 22,an ⟨#[114,111,117,110,100]⟩,al am 23,an ⟨#[109,105,110]⟩,al am 24,an ⟨#[109,97,120]⟩,al am 25,an ⟨#[105,102]⟩,al am 26,an ⟨#[101,108,115,101]⟩,al am 27,an ⟨#[115,105,122,101]⟩,al am 28,an ⟨#[99,111,100,101]⟩,al am 29,an ⟨#[108,111,119,101,114]⟩,al am 30,an ⟨#[106,111,105,110]⟩,al am 31,an ⟨#[98,101,103,105,110,115]⟩,al am 32,an ⟨#[104,111,108,100,115]⟩,al am 33,an ⟨#[121,101,97,114]⟩,al am 34,an ⟨#[109,111,110,116,104]⟩,al am 35,an ⟨#[100,97,121]⟩,al am 36,an ⟨#[100,97,121,115]⟩,al am 37,an ⟨#[97,103,101]⟩,al am 38,an ⟨#[108,97,116,101,114]⟩,al am 39]:=by kernel_rfl
 exact⟨_,rfl,vF (t:=359) (by rw[e];exact ah.new w 359 #[an ⟨#[97,110,115,119,101,114,101,100]⟩,al am 12,an ⟨#[97,115,107,101,100]⟩,al am 13,an ⟨#[114,101,97,115,111,110]⟩,al am 14,an ⟨#[97,98,115]⟩,al am 21,an ⟨#[102,108,111,111,114]⟩,al am 22,an ⟨#[114,111,117,110,100]⟩,al am 23,an ⟨#[109,105,110]⟩,al am 24,an ⟨#[109,97,120]⟩,al am 25,an ⟨#[105,102]⟩,al am 26,an ⟨#[101,108,115,101]⟩,al am 27,an ⟨#[115,105,122,101]⟩,al am 28,an ⟨#[99,111,100,101]⟩,al am 29,an ⟨#[108,111,119,101,114]⟩,al am 30,an ⟨#[106,111,105,110]⟩,al am 31,an ⟨#[98,101,103,105,110,115]⟩,al am 32,an ⟨#[104,111,108,100,115]⟩,al am 33,an ⟨#[121,101,97,114]⟩,al am 34,an ⟨#[109,111,110,116,104]⟩,al am 35,an ⟨#[100,97,121]⟩,al am 36,an ⟨#[100,97,121,115]⟩,al am 37,an ⟨#[97,103,101]⟩,al am 38,an ⟨#[108,97,116,101,114]⟩,al am 39]) (by simp) (by decide),(Below.refl _ w).alloc (ar _) _⟩
theorem dI {w w':World} {B:Nat} {A:Option Addr} {l:List (ByteArray × Int)} (h:aF kP 2 w B A l) (a:Below B w w'):aF kP 2 w' B A l:=aF.keep (w:=w) (w':=w') (λ _ _ h=>h) h a
def tx (l:List UInt8):ByteArray:=⟨l.toArray⟩
theorem Bl:(∀ d∈eU,d.1=tx (dH d.2))/\(∀ d∈iL,d.1=tx (dH d.2))/\(∀ d∈iM,d.1=tx (dH d.2)):=by
 refine⟨?_,?_,?_⟩ <;> · intro d a;simp only[eU,iL,iM,ba,List.not_mem_nil,or_false] at a;rcases a with rfl | a <;> first | rfl | (repeat' (first | (rcases a with rfl | a) | subst a)) <;> rfl
theorem U6:∀ d∈dZ,d.1=tx (uz d.2):=by
 intro d b;have h:(dZ.all λ d=>decide (d.1.data.toList=uz d.2))=true:=by decide
 have a:=aZ.1 h d b;rw[decide_eq_true_iff] at a;unfold tx;rw[<- a]
theorem U7 {op:Int} (h:∀ d∈dZ,d.2≠op):uz op = []:=by
 have c:∀ p∈uS,p.1≠op:=by
  intro p a;have g:(uS.all λ p=>dZ.any λ d=>decide (d.2=p.1))=true:=by decide
  have e:=aZ.1 g p a;obtain⟨d,f,b⟩:=List.any_eq_true.1 e;rw[decide_eq_true_iff] at b;rw[<- b];exact h d f
 unfold uz;rw[List.find?_eq_none.2 (λ p a=>by simpa using c p a)]
theorem U8 {op:Int} (b:∀ d∈eU,d.2≠op) (a:∀ d∈iL,d.2≠op) (c:∀ d∈iM,d.2≠op):dH op = []:=by
 simp only[eU,iL,iM,List.forall_mem_cons] at b a c;unfold dH;rw[if_neg (by omega),if_neg (by omega),if_neg (by omega),if_neg (by omega),if_neg (by omega),if_neg (by omega),if_neg (by omega),if_neg (by omega),if_neg (by omega),if_neg (by omega),if_neg (by omega),if_neg (by omega),if_neg (by omega)]
theorem JQ (op:Int) (w:World):CS 243 #[al am op] w (an (tx (uz op))):=by
 go_enter func243,ntmps243;go_wp2_with fail;refine (NI w).mono ?_;rintro L W ⟨l,rfl,y,f⟩;have G:=qh y;have g:DD W W:=Below.refl _ _;clear y;go_wp2_with fail;go_loopw [7,4] (λ i _ B=>∃ k:Nat,k<=22/\i = al am k/\Hid (∀ d∈dZ.take k,d.2≠op)/\DD W B) (λ i _ _=>22 - (intOf i).toNat)
 case atStart=>exact⟨0,av _,rfl,qh (λ d h=>by simp at h),g⟩
 case round =>
  obtain⟨k,N,rfl,u,c⟩:=hrel;have v:=c.size;by_cases hlt:k<22
  .have b:k<dZ.length:=hlt;obtain⟨ad,J,n,I,j,a⟩:=(dI G.o c).at_ b;injection n with n;subst n;obtain⟨d,p⟩:=af (dZ[k]);have o:d∈dZ:=by rw[<- p];exact ay b
   have t:=qh (show dZ.take (k+1)=dZ.take k ++ [d] by rw[aD b,p]);rw[p] at j;have q:=qh o;have z:=qh hlt;obtain⟨r,m⟩:=d;have F:J = [an r,al am m]:=j;subst F;have K:wr.cell? (l.add (k*2))=some (an r):=a 0 _ rfl;have M:wr.cell? ⟨(l.add (k*2)).block,(l.add (k*2)).off+1,none⟩=some (al am m):=a 1 _ rfl;have C:(0:Int)<=(k:Nat):=by omega
   have A:(k:Int)<22:=by omega
   clear j a p o I b;by_cases ho:m=op
   .subst ho;have bo:(m == m)=true:=by simp
    have s:=qh (show tx (uz m)=r from (U6 _ q.o).symm);go_wp2_with fail;go_ret;exact⟨by rw[s.o];try rfl,f.trans ((c.alloc v _).mono f.size)⟩
   .have bo:(m == op)=false:=by simp[ho]
    have E:=qh (show ∀ d∈dZ.take (k+1),d.2≠op by
     rw[t.o];intro x D;rcases a0.1 D with h | h
     .exact u.o x h
     .rw[aR] at h;rw[h];exact ho)
    clear ho;go_wp2_with fail;go_roundw
    case rel=>exact⟨k+1,z.o,by go_num,E,c.alloc v _⟩
    case measure =>
     have:=z.o;simp[intOf];omega
  .have H:=qh (show ∀ d∈dZ,d.2≠op by have h:=u.o;rwa [aE (show dZ.length<=k by show 22<=k;omega)] at h);clear u;have s:=qh (show tx (uz op)=⟨#[]⟩ by rw[U7 H.o];rfl);go_wp2_with fail;go_ret;exact⟨by rw[s.o];try rfl,f.trans (c.mono f.size)⟩
theorem kW {w:World} {B B':Nat} {A:Option Addr} {l:List (ByteArray × Int)} (h:aF kP 2 w B A l) (c:B<=B'):aF kP 2 w B' A l:=by
 obtain⟨b,cs,d,a⟩:=h;exact⟨b,cs,d.more c,a⟩
theorem Qy (op:Int) (w:World):CS 265 #[al am op] w (an (tx (dH op))):=by
 go_enter func265,ntmps265;go_wp2_with fail;refine (NH w).mono ?_;rintro en W1 ⟨H,rfl,O,D⟩;go_wp2_with fail;refine (Yl W1).mono ?_;rintro en W2 ⟨L,rfl,T,u⟩;go_wp2_with fail;refine (Ym W2).mono ?_;rintro en r ⟨I,rfl,R,t⟩;have A:=(D.trans (u.mono D.size)).trans (t.mono (bb D.size u.size));have E:=qh (show aF kP 2 r r.heap.size (some H) eU/\aF kP 2 r r.heap.size (some L) iL/\aF kP 2 r r.heap.size (some I) iM from
  ⟨kW (dI (dI O u) (t.mono u.size)) (bb u.size t.size),kW (dI T t) t.size,R⟩)
 clear O T R D u t;go_upto_region 2 with (fail);obtain⟨Wo,F⟩:=aG (r.alloc (.cells #[ao (some H) 8 8,ao (some L) 2 2,ao (some I) 3 3] 356 (0,0)));have K:DD r Wo:=F▸(Below.refl _ r).alloc (ar _) _;have M:ah Wo r.heap.size 356 #[ao (some H) 8 8,ao (some L) 2 2,ao (some I) 3 3]:=F▸ah.new r _ _;rw[<- F];have p:=A.trans (K.mono A.size);have HT:=qh (show aF kP 2 Wo Wo.heap.size (some H) eU/\aF kP 2 Wo Wo.heap.size (some L) iL/\aF kP 2 Wo Wo.heap.size (some I) iM from
  ⟨kW (dI E.o.1 K) K.size,kW (dI E.o.2.1 K) K.size,kW (dI E.o.2.2 K) K.size⟩)
 have Q:=qh M;clear F K M E A;go_loopw [12,4,6,18] (λ i _ _ _ wo=>∃ n:Nat,n<=3/\i = al am n/\Hid ((0<n->∀ d∈eU,d.2≠op)/\(1<n->∀ d∈iL,d.2≠op)/\(2<n->∀ d∈iM,d.2≠op))/\DD Wo wo) (λ i _ _ _ _=>3 - (intOf i).toNat)
 case atStart=>exact⟨0,by omega,rfl,qh ⟨λ h=>by omega,λ h=>by omega,λ h=>by omega⟩,Below.refl _ _⟩
 case round =>
  obtain⟨n,hn,rfl,o,m⟩:=hrel;have M:=Q.o.below m Q.o.lt;have ag:wr.cell? ⟨r.heap.size,0,none⟩=some (ao (some H) 8 8):=M.cell 0;have ak:wr.cell? ⟨r.heap.size,1,none⟩=some (ao (some L) 2 2):=M.cell 1;have ae:wr.cell? ⟨r.heap.size,2,none⟩=some (ao (some I) 3 3):=M.cell 2;clear M;obtain rfl | rfl | rfl | rfl:n=0\/n=1\/n=2\/n=3:=by omega
  .skip
   have P:=qh (dI HT.o.1 m);have f:DD wr wr:=Below.refl _ _;have y:=qh (kW P.o m.size);go_wp2_with fail;go_loopw [18,6] (λ i _ Y=>∃ k:Nat,k<=8/\i = al am k/\Hid (∀ d∈eU.take k,d.2≠op)/\DD wr Y) (λ i _ _=>8 - (intOf i).toNat)
   case atStart=>exact⟨0,av _,rfl,qh (λ d h=>by simp at h),f⟩
   case round =>
    obtain⟨k,hk,rfl,v,c⟩:=hrel;have G:=c.size;by_cases hlt:k<8
    .have b:k<eU.length:=hlt;obtain⟨ad,X,l,W,g,a⟩:=(dI y.o c).at_ b;injection l with l;subst l;obtain⟨d,s⟩:=af (eU[k]);have q:d∈eU:=by rw[<- s];exact ay b
     have B:=qh (show eU.take (k+1)=eU.take k ++ [d] by rw[aD b,s]);rw[s] at g;have z:=qh q;have J:=qh hlt;obtain⟨C,j⟩:=d;have V:X = [an C,al am j]:=g;subst V;have qi:wr.cell? (H.add (k*2))=some (an C):=a 0 _ rfl;have qW:wr.cell? ⟨(H.add (k*2)).block,(H.add (k*2)).off+1,none⟩=some (al am j):=a 1 _ rfl;have Z:(0:Int)<=(k:Nat):=by omega
     have U:(k:Int)<8:=by omega
     clear g a s q W b;by_cases ho:j=op
     .subst ho;have bo:(j == j)=true:=by simp
      have N:=qh (show tx (dH j)=C from (Bl.1 _ z.o).symm);go_wp2_with fail;go_ret;exact⟨by rw[N.o];try rfl,p.trans ((m.trans ((c.alloc G _).mono m.size)).mono p.size)⟩
     .have bo:(j == op)=false:=by simp[ho]
      have Bo:=qh (show ∀ d∈eU.take (k+1),d.2≠op by
       rw[B.o];intro x hx;rcases a0.1 hx with h | h
       .exact v.o x h
       .rw[aR] at h;rw[h];exact ho)
      clear ho;go_wp2_with fail;go_roundw
      case rel=>exact⟨k+1,J.o,by go_num,Bo,c.alloc G _⟩
      case measure =>
       have:=J.o;simp[intOf];omega
    .have S:=qh (show ∀ d∈eU,d.2≠op by have h:=v.o;rwa [aE (show eU.length<=k by show 8<=k;omega)] at h);clear v;have ab:=S;go_wp2_with fail;go_roundw
     case rel=>exact⟨0+1,by omega,by rfl,qh ⟨λ _=>ab.o,λ h=>o.o.2.1 (by omega),λ h=>o.o.2.2 (by omega)⟩,(m.trans (c.mono m.size))⟩
     case measure=>simp[intOf]
  .skip
   have P:=qh (dI HT.o.2.1 m);have f:DD wr wr:=Below.refl _ _;have y:=qh (kW P.o m.size);go_wp2_with fail;go_loopw [18,6] (λ i _ Y=>∃ k:Nat,k<=2/\i = al am k/\Hid (∀ d∈iL.take k,d.2≠op)/\DD wr Y) (λ i _ _=>2 - (intOf i).toNat)
   case atStart=>exact⟨0,av _,rfl,qh (λ d h=>by simp at h),f⟩
   case round =>
    obtain⟨k,hk,rfl,v,c⟩:=hrel;have G:=c.size;by_cases hlt:k<2
    .have b:k<iL.length:=hlt;obtain⟨ad,X,l,W,g,a⟩:=(dI y.o c).at_ b;injection l with l;subst l;obtain⟨d,s⟩:=af (iL[k]);have q:d∈iL:=by rw[<- s];exact ay b
     have B:=qh (show iL.take (k+1)=iL.take k ++ [d] by rw[aD b,s]);rw[s] at g;have z:=qh q;have J:=qh hlt;obtain⟨C,j⟩:=d;have V:X = [an C,al am j]:=g;subst V;have qi:wr.cell? (L.add (k*2))=some (an C):=a 0 _ rfl;have qW:wr.cell? ⟨(L.add (k*2)).block,(L.add (k*2)).off+1,none⟩=some (al am j):=a 1 _ rfl;have Z:(0:Int)<=(k:Nat):=by omega
     have U:(k:Int)<2:=by omega
     clear g a s q W b;by_cases ho:j=op
     .subst ho;have bo:(j == j)=true:=by simp
      have N:=qh (show tx (dH j)=C from (Bl.2.1 _ z.o).symm);go_wp2_with fail;go_ret;exact⟨by rw[N.o];try rfl,p.trans ((m.trans ((c.alloc G _).mono m.size)).mono p.size)⟩
     .have bo:(j == op)=false:=by simp[ho]
      have Bo:=qh (show ∀ d∈iL.take (k+1),d.2≠op by
       rw[B.o];intro x hx;rcases a0.1 hx with h | h
       .exact v.o x h
       .rw[aR] at h;rw[h];exact ho)
      clear ho;go_wp2_with fail;go_roundw
      case rel=>exact⟨k+1,J.o,by go_num,Bo,c.alloc G _⟩
      case measure =>
       have:=J.o;simp[intOf];omega
    .have S:=qh (show ∀ d∈iL,d.2≠op by have h:=v.o;rwa [aE (show iL.length<=k by show 2<=k;omega)] at h);clear v;have ac:=S;go_wp2_with fail;go_roundw
     case rel=>exact⟨1+1,by omega,by rfl,qh ⟨λ h=>o.o.1 (by omega),λ _=>ac.o,λ h=>o.o.2.2 (by omega)⟩,(m.trans (c.mono m.size))⟩
     case measure=>simp[intOf]
  .skip
   have P:=qh (dI HT.o.2.2 m);have f:DD wr wr:=Below.refl _ _;have y:=qh (kW P.o m.size);go_wp2_with fail;go_loopw [18,6] (λ i _ Y=>∃ k:Nat,k<=3/\i = al am k/\Hid (∀ d∈iM.take k,d.2≠op)/\DD wr Y) (λ i _ _=>3 - (intOf i).toNat)
   case atStart=>exact⟨0,av _,rfl,qh (λ d h=>by simp at h),f⟩
   case round =>
    obtain⟨k,hk,rfl,v,c⟩:=hrel;have G:=c.size;by_cases hlt:k<3
    .have b:k<iM.length:=hlt;obtain⟨ad,X,l,W,g,a⟩:=(dI y.o c).at_ b;injection l with l;subst l;obtain⟨d,s⟩:=af (iM[k]);have q:d∈iM:=by rw[<- s];exact ay b
     have B:=qh (show iM.take (k+1)=iM.take k ++ [d] by rw[aD b,s]);rw[s] at g;have z:=qh q;have J:=qh hlt;obtain⟨C,j⟩:=d;have V:X = [an C,al am j]:=g;subst V;have qi:wr.cell? (I.add (k*2))=some (an C):=a 0 _ rfl;have qW:wr.cell? ⟨(I.add (k*2)).block,(I.add (k*2)).off+1,none⟩=some (al am j):=a 1 _ rfl;have Z:(0:Int)<=(k:Nat):=by omega
     have U:(k:Int)<3:=by omega
     clear g a s q W b;by_cases ho:j=op
     .subst ho;have bo:(j == j)=true:=by simp
      have N:=qh (show tx (dH j)=C from (Bl.2.2 _ z.o).symm);go_wp2_with fail;go_ret;exact⟨by rw[N.o];try rfl,p.trans ((m.trans ((c.alloc G _).mono m.size)).mono p.size)⟩
     .have bo:(j == op)=false:=by simp[ho]
      have Bo:=qh (show ∀ d∈iM.take (k+1),d.2≠op by
       rw[B.o];intro x hx;rcases a0.1 hx with h | h
       .exact v.o x h
       .rw[aR] at h;rw[h];exact ho)
      clear ho;go_wp2_with fail;go_roundw
      case rel=>exact⟨k+1,J.o,by go_num,Bo,c.alloc G _⟩
      case measure =>
       have:=J.o;simp[intOf];omega
    .have S:=qh (show ∀ d∈iM,d.2≠op by have h:=v.o;rwa [aE (show iM.length<=k by show 3<=k;omega)] at h);clear v;have aa:=S;go_wp2_with fail;go_roundw
     case rel=>exact⟨2+1,by omega,by rfl,qh ⟨λ h=>o.o.1 (by omega),λ h=>o.o.2.1 (by omega),λ _=>aa.o⟩,(m.trans (c.mono m.size))⟩
     case measure=>simp[intOf]
  .have N:=qh (show tx (dH op)=⟨#[]⟩ by rw[U8 (o.o.1 (by omega)) (o.o.2.1 (by omega)) (o.o.2.2 (by omega))];rfl);go_wp2_with fail;go_ret;exact⟨by rw[N.o];try rfl,p.trans (m.mono p.size)⟩
end
namespace Vtx
open Go.Lib Dig
theorem Du (l:List UInt8) (c:UInt8):∃ k,l=trimRightB l c ++ bc k c:=by
 have h:=List.takeWhile_append_dropWhile (p:=λ b:UInt8=>b == c) (l:=l.reverse);have e:l=(l.reverse.dropWhile (· == c)).reverse ++ (l.reverse.takeWhile (· == c)).reverse:=by
  have:=congrArg List.reverse h;rw[List.reverse_append,List.reverse_reverse] at this;exact this.symm
 refine⟨(l.reverse.takeWhile (· == c)).length,?_⟩;have a:(l.reverse.takeWhile (· == c)).reverse=bc (l.reverse.takeWhile (· == c)).length c:=by
  rw[List.eq_replicate_iff];refine⟨by simp,λ b d=>?_⟩;have:=aZ.1 (List.all_takeWhile (p:=λ b:UInt8=>b == c) (l:=l.reverse)) b (List.mem_reverse.1 d);simpa using this
 rw[<- a];exact e
theorem NK {m:Nat} (h:m<10000):XR (ja m) 4=nR 4 m/\(ja m).length<=4:=by
 have c:(decDigits m).length<=4:=gI 3 m h;obtain⟨k,b⟩:=Du (nR 4 m) 48;have a:=sK c;have e:=congrArg List.length b;rw[a] at e;simp only[a4,List.length_replicate] at e;unfold XR ja;refine⟨?_,by omega⟩;rw[show 4 - (trimRightB (nR 4 (m:Int)) 48).length=k by omega];exact b.symm
theorem IE {n:Int} (d : -999999999999999<=n) (c:n<=999999999999999):∃ F M:Nat,F<=99999999999/\M<10000/\nD n=((F*10000+M:Nat):Int) /\
  pY n=(if n<0 then [45] else []) ++ decDigits F ++ (if ja M = [] then [] else 46 :: ja M):=by
 have e:0<=nD n/\nD n<=999999999999999:=by unfold nD;split <;> omega
 refine⟨(nD n).toNat / 10000,(nD n).toNat % 10000,by omega,by omega,by omega,?_⟩;have a:nD n / 10000=(((nD n).toNat / 10000:Nat):Int):=by omega
 have b:nD n % 10000=(((nD n).toNat % 10000:Nat):Int):=by omega
 unfold pY;rw[a,b,ku]
theorem zg (F:Nat):∃ b r,decDigits F=b :: r/\dF b:=by
 cases h:decDigits F with
 | nil=>exact absurd h (Jz F)
 | cons b r=>exact⟨b,r,rfl,wB F b (by rw[h];exact aL ..)⟩
theorem Yn {b:UInt8} (h:dF b) {c:UInt8} (a:¬ dF c):b≠c:=λ e=>a (e▸h)
theorem U9 {l:List UInt8} {b:UInt8} {r:List UInt8} (e:l=b :: r) (h:dF b):hasPrefix l [45]=false:=by
 subst e;simp[hasPrefix,a1];exact λ e=>Yn h XT e.symm
theorem QA {l:List UInt8} {b:UInt8} {r:List UInt8} (e:l=b :: r) (h:dF b):trimPrefix l [45]=l:=by
 unfold trimPrefix;rw[U9 e h];simp
theorem QB (l:List UInt8):trimPrefix ([45] ++ l) [45]=l/\hasPrefix ([45] ++ l) [45]=true:=by
 have h:hasPrefix ([45] ++ l) [45]=true:=by simp[hasPrefix,a1]
 exact⟨by unfold trimPrefix;rw[if_pos h];rfl,h⟩
theorem acn (F M:Nat):(cut (decDigits F ++ (if ja M = [] then [] else 46 :: ja M)) [46]).1=decDigits F/\(cut (decDigits F ++ (if ja M = [] then [] else 46 :: ja M)) [46]).2.1=ja M:=by
 have hF:(46:UInt8) ∉ decDigits F:=JA (wB F) al7;by_cases h:ja M = []
 .rw[if_pos h,bd,yS hF,h];exact⟨rfl,rfl⟩
 .rw[if_neg h,sN _ hF];exact⟨rfl,rfl⟩
theorem Yo {n:Int} (i : -999999999999999<=n) (g:n<=999999999999999):jg (pY n)=some n:=by
 obtain⟨F,M,hF,a,c,e⟩:=IE i g;obtain⟨c1,c2⟩:=acn F M;obtain⟨j,o⟩:=NK a;have m:=AQ (n:=F) (by have:=gI 10 F (by omega);omega);have d:=wE (w:=4) (n:=M) (gI 3 M a) (by decide);have f:=sK (w:=4) (n:=M) (gI 3 M a);have key:∀ s,trimPrefix s [45]=decDigits F ++ (if ja M = [] then [] else 46 :: ja M)->jg s=some (if (decDigits F ++ (if ja M = [] then [] else 46 :: ja M)).length<s.length then -((F*10000+M:Nat):Int) else ((F*10000+M:Nat):Int)):=by
  intro s h;unfold jg;simp only[h,c1,c2,j,m,d,f];rw[if_pos ⟨trivial,trivial,by decide,hF⟩]
 by_cases hn:n<0
 .rw[if_pos hn,be] at e;rw[key _ (by rw[e];exact (QB _).1),e,if_pos (by simp),<- c];unfold nD;rw[if_pos hn];simp
 .rw[if_neg hn,List.nil_append] at e;obtain⟨b,r,k,l⟩:=zg F;rw[key _ (by rw[e];exact QA (by rw[k];rfl) l),e,if_neg (by omega),<- c];unfold nD;rw[if_neg hn]
theorem rC {c:Int} (h:0<=c):gV c=35 :: decDigits c.toNat:=by
 unfold gV;obtain⟨m,rfl⟩:∃ m:Nat,c=m:=⟨c.toNat,by omega⟩;rw[ku];simp
theorem aco {c:Int} (h:0<=c) {x:UInt8} (d:¬ dF x) (a:x≠35):x ∉ gV c:=by
 rw[rC h];intro b;rcases ba.1 b with e | e
 .exact a e
 .exact d (wB _ x e)
theorem afc (l:List UInt8):trimPrefix (35 :: l) [35]=l:=by simp[trimPrefix,hasPrefix,a1]
theorem Fb:∀ {l:List Int},(∀ c∈l,1<=c/\c<=999)->mi (l.map gV)=some l
 | [],_=>rfl
 | c :: r,h=>by
  have d:=h c (aL ..);have b:=AQ (n:=c.toNat) (by have:=gI 2 c.toNat (by omega);omega);simp only[aM,mi];rw[rC (by omega),afc,b,if_pos rfl,Fb (λ x a=>h x (a5 _ a))];simp;omega
theorem QC {c:Int} {r:List Int} (h:∀ x∈c :: r,1<=x/\x<=999):(∃ t,join ((c :: r).map gV) [44]=35 :: t)/\(∃ t b,join ((c :: r).map gV) [44]=t ++ [b]/\dF b):=by
 have g:∀ (c:Int),1<=c->∃ t b,gV c=t ++ [b]/\dF b:=by
  intro c k;rw[rC (by omega)];have a:=Jz c.toNat;refine⟨35 :: (decDigits c.toNat).dropLast,(decDigits c.toNat).getLast a,?_,wB _ _ (List.getLast_mem a)⟩;rw[bf,List.dropLast_concat_getLast]
 constructor
 .rw[aM,join_cons,rC (by have:=h c (aL ..);omega)];exact⟨_,rfl⟩
 .induction r generalizing c with
  | nil =>
   rw[aM,bg,join_one];exact g c (h c (aL ..)).1
  | cons d r ih =>
   obtain⟨t,b,e,i⟩:=ih (c:=d) (λ x f=>h x (a5 _ f));have j:join ((c :: d :: r).map gV) [44]=gV c ++ 44 :: join ((d :: r).map gV) [44]:=by
    simp only[aM];rw[join_cons,join_cons];simp[joinTail]
   rw[j,e];exact⟨gV c ++ 44 :: t,b,by simp,i⟩
theorem Va (l:List Int):EE (yR l)=join (l.map gV) [44]:=by
 unfold EE yR;have b:trimPrefix (123 :: join (l.map gV) [44] ++ [125]) [123]=join (l.map gV) [44] ++ [125]:=by simp[trimPrefix,hasPrefix,a1]
 rw[b];have a:hasSuffix (join (l.map gV) [44] ++ [125]) [125]=true:=by
  unfold hasSuffix;rw[bh];exact⟨_,rfl⟩
 unfold trimSuffix;rw[if_pos a];simp
theorem Yp {l:List Int} (h:∀ c∈l,1<=c/\c<=999):∀ p∈l.map gV,(44:UInt8) ∉ p:=by
 intro p a;obtain⟨c,b,rfl⟩:=List.mem_map.1 a;exact aco (by have:=h c b;omega) al8 (by decide)
theorem Yq {l:List Int} (h:∀ c∈l,1<=c/\c<=999):jh (yR l)=some l:=by
 unfold jh;rw[Va];cases l with
 | nil=>rfl
 | cons c r =>
  obtain⟨⟨t,a⟩,-⟩:=QC h;rw[if_neg (by rw[a];simp),EG (by simp) (Yp h),Fb h]
theorem IG {n:Int} (g : -25567<=n) (f:n<=84005):∃ y m d:Nat,Cal.cy n=y/\Cal.cm n=m/\Cal.cd n=d/\y<10000/\m<100/\d<100/\Cal.kK y m d=true/\Cal.num y m d=n:=by
 have h:=Cal.Nc g f;have o:=Cal.xW g f h.year.1 h.year.2;have p:=Cal.Eu (Cal.cy n) (Cal.cm n);have j:=h.m1;have i:=h.m2;have l:=h.d1;have k:=h.d2;have a:Cal.kK (Cal.cy n) (Cal.cm n) (Cal.cd n)=true:=by rw[Cal.sH];exact⟨o,⟨h.m1,h.m2⟩,h.d1,h.d2⟩
 have e:Cal.cy n=((Cal.cy n).toNat:Int):=by omega
 have b:Cal.cm n=((Cal.cm n).toNat:Int):=by omega
 have c:Cal.cd n=((Cal.cd n).toNat:Int):=by omega
 refine⟨(Cal.cy n).toNat,(Cal.cm n).toNat,(Cal.cd n).toNat,e,b,c,by omega,by omega,by omega,?_,?_⟩
 .rw[<- e,<- b,<- c];exact a
 .rw[<- e,<- b,<- c];exact h.eq
theorem Yr {n:Int} (i : -25567<=n) (h:n<=84005):iU (xX n).tail=some n:=by
 obtain⟨y,m,d,c,f,o,j,g,q,a,l⟩:=IG i h;have b:=gI 3 y j;have k:=gI 1 m g;have p:=gI 1 d q;have e:(xX n).tail=nR 4 y ++ 45 :: (nR 2 m ++ 45 :: nR 2 d):=by
  unfold xX;rw[c,f,o];simp
 unfold iU;rw[e,EF _ (JA (DK 4 y) XT),EF _ (JA (DK 2 m) XT),Ir (JA (DK 2 d) XT)];simp only[wE b (by decide),wE k (by decide),wE p (by decide)];rw[if_pos (by simp[a]),l]
theorem Yt {n:Int} (g : -999999999999999<=n) (d:n<=999999999999999):∃ b r,pY n=b :: r/\(dF b\/(b=45/\∃ c t,r=c :: t)):=by
 obtain⟨F,M,hF,i,h,e⟩:=IE g d;obtain⟨b,r,a,f⟩:=zg F;by_cases hn:n<0
 .rw[if_pos hn,a] at e;exact⟨45,_,by rw[e];rfl,.inr ⟨rfl,_,_,rfl⟩⟩
 .rw[if_neg hn,a] at e;exact⟨b,_,by rw[e];rfl,.inl f⟩
theorem acp {n:Int} (d : -999999999999999<=n) (a:n<=999999999999999):pY n≠[]/\pY n≠[45]/\pY n≠ql/\pY n≠lK/\(pY n).head?≠some 39/\(pY n).head?≠some 35/\(pY n).head?≠some 123/\(pY n).head?≠some 64/\pY n≠w1T/\pY n≠w2T/\pY n≠w3T:=by
 obtain⟨b,r,e,h⟩:=Yt d a;rw[e];have f:∀ c:UInt8,¬ dF c->c≠45->b≠c:=by
  intro c m i l;rcases h with h | ⟨h,-⟩
  .exact m (l▸h)
  .exact i (l▸h)
 have k:∀ c:UInt8,¬ dF c->c≠45->∀ t,b :: r≠c :: t:=λ c d a t e=>f c d a (List.cons.inj e).1;have g:∀ c:UInt8,¬ dF c->c≠45->(b :: r).head?≠some c:=λ c d a e=>f c d a (by simpa using e);refine⟨by simp,?_,k _ (by unfold dF;decide) (by decide) _,k _ (by unfold dF;decide) (by decide) _,g _ (by unfold dF;decide) (by decide),g _ (by unfold dF;decide) (by decide),g _ (by unfold dF;decide) (by decide),g _ (by unfold dF;decide) (by decide),k _ (by unfold dF;decide) (by decide) _,k _ (by unfold dF;decide) (by decide) _,k _ (by unfold dF;decide) (by decide) _⟩;intro j;rcases h with h | ⟨-,c,t,o⟩
 .exact XT ((List.cons.inj j).1▸h)
 .rw[o] at j;cases (List.cons.inj j).2
theorem Vb (s:List UInt8):trimSuffix (replaceAll s [39] [39,39] ++ [39]) [39]=replaceAll s [39] [39,39]:=by
 have a:hasSuffix (replaceAll s [39] [39,39] ++ [39]) [39]=true:=by
  unfold hasSuffix;rw[bh];exact⟨_,rfl⟩
 unfold trimSuffix;rw[if_pos a];simp
theorem tC {k n:Int} {s:List UInt8} {l:List Int} (h:Xf k n s l):bW (showT k n s l)=some ⟨k,n,s,l⟩:=by
 cases h with
 | none_=>decide +kernel
 | word h1 h2 =>
  obtain rfl | rfl | rfl:n=1\/n=2\/n=3:=by omega
  all_goals rfl
 | num h1 h2 =>
  obtain⟨o,c,i,g,d,j,p,m,f,b,a⟩:=acp h1 h2;show bW (pY n)=_;unfold bW;rw[if_neg o,if_neg c,if_neg i,if_neg g,if_neg d,if_neg j,if_neg p,if_neg m,if_neg f,if_neg b,if_neg a,Yo h1 h2];rfl
 | text s =>
  show bW (Nj s)=_;unfold bW Nj;rw[if_neg (by simp),if_neg (by simp),if_neg (by simp[ql]),if_neg (by simp[lK]),if_pos (by simp)];simp only[bf,bi];rw[Vb,back]
 | code h1 h2 =>
  show bW (gV n)=_;have q:=AQ (n:=n.toNat) (by have:=gI 2 n.toNat (by omega);omega);rw[rC (by omega)];unfold bW;rw[if_neg (by simp),if_neg (by simp),if_neg (by simp[ql]),if_neg (by simp[lK]),if_neg (by simp),if_pos (by simp)];simp only[bi,q,if_true];rw[show ((n.toNat:Nat):Int)=n by omega]
 | set h =>
  show bW (yR l)=_;have e:(yR l).head?=some 123:=by simp[yR]
  unfold bW;rw[if_neg (by simp[yR]),if_neg (by simp[yR]),if_neg (by simp[yR,ql]),if_neg (by simp[yR,lK]),if_neg (by rw[e];simp),if_neg (by rw[e];simp),if_pos e,Yq h];rfl
 | day h1 h2 =>
  show bW (xX n)=_;have e:(xX n).head?=some 64:=by simp[xX]
  unfold bW;rw[if_neg (by simp[xX]),if_neg (by simp[xX]),if_neg (by simp[xX,ql]),if_neg (by simp[xX,lK]),if_neg (by rw[e];simp),if_neg (by rw[e];simp),if_neg (by rw[e];simp),if_pos e,Yr h1 h2];rfl
 | bool h1 h2 =>
  obtain rfl | rfl:n=0\/n=1:=by omega
  all_goals rfl
end Vtx
section
open Go.RowKit Dig Vtx
theorem uG {t:ByteArray} {l:List UInt8} (h:t.data.toList=l):t=⟨l.toArray⟩:=by subst h;rfl
theorem nI {t:ByteArray} {l:List UInt8} (h:t.data.toList=l):t.size=l.length:=by rw[<- h];rfl
theorem eH (a b:ByteArray):(a ++ b).data.toList=a.data.toList ++ b.data.toList:=by rw[ByteArray.data_append,Array.toList_append]
def tH (l:List UInt8):Value:=.tuple #[al am ((dD l).1:Nat),ap (dD l).2]
theorem II {l:List UInt8} (h:l = []\/15<l.length):tH l = .tuple #[al am 0,ap false]:=by unfold tH dD;rw[if_pos h];rfl
theorem Fe {l:List UInt8} (h:l.all fQ=false):tH l = .tuple #[al am 0,ap false]:=by
 unfold tH dD;split
 .rfl
 .rw[h];rfl
theorem Vd {l:List UInt8} (a:l≠[]) (b:l.length<=15) (h:l.all fQ=true):tH l = .tuple #[al am (dO l:Nat),ap true]:=by
 unfold tH dD;rw[if_neg (by simp[a];omega),if_pos h]
theorem IJ:∀ (l:List UInt8),l.all fQ=true->dO l<10 ^ l.length:=by
 intro l
 induction l with
 | nil=>intro _;decide
 | cons b r ih =>
  intro h;rw[bj,bk] at h;have:=ih h.2;have a:=h.1;simp only[fQ,bk,decide_eq_true_eq] at a;rw[Ci,a6,Nat.pow_succ];have:(b.toNat - 48)*10 ^ r.length<=9*10 ^ r.length:=Nat.mul_le_mul_right _ (by omega);omega
theorem acr {s:ByteArray} {k:Nat} (h:k<s.size):∃ a:k<s.data.toList.length,s.data.toList[k]=s[k]:=⟨by simpa using h,rfl⟩
theorem mM (s:ByteArray) (w:World) :
  E5 332 #[an s] w (tH s.data.toList):=by
 by_cases h0:s=⟨#[]⟩
 .subst h0;go_enter func332,ntmps332;go_wp2;go_ret2;exact⟨dC (II (.inl rfl)).symm,rfl⟩
 have a:s.data.toList≠[]:=λ e=>h0 (uG e);have F:s.toList.isEmpty=false:=by rw[ByteArray.toList_eq];simpa using a
 have c:s.data.toList.length=s.size:=rfl;by_cases h1:15<s.size
 .have A:=qh (II (l:=s.data.toList) (.inr (by rw[c];exact h1)));clear a c h0;go_enter func332,ntmps332;go_wp2;go_ret2;exact⟨dC A.o.symm,rfl⟩
 have G:s.size<=15:=by omega
 have t:=qh a;have d:=qh c;clear a c h0 h1;go_enter func332,ntmps332;go_wp2
 go_loop [4,5] (λ n i=>∃ k v:Nat,k<=s.size/\i = al am (k:Int)/\n = al am (v:Int)/\v<=1000000000000000/\Hid (v=dO (s.data.toList.take k)/\(s.data.toList.take k).all fQ=true)) (λ _ i=>s.size - (intOf i).toNat)
 case atStart=>exact⟨0,0,av _,rfl,rfl,by omega,qh ⟨rfl,rfl⟩⟩
 case round =>
  obtain⟨k,v,H,rfl,rfl,E,q⟩:=hrel;by_cases hlt:k<s.size
  .obtain⟨y,x⟩:=acr hlt;obtain⟨b,j⟩:=af (s[k]);have p:=qh j;have z:=qh (show s.data.toList.take (k+1)=s.data.toList.take k ++ [b] by rw[aD y,x,j]);have o:=qh (show fQ b=false->s.data.toList.all fQ=false from λ h=>by
    rw[bl];intro e;rw[aZ] at e;have:=e s.data.toList[k] (ay y);rw[x,j,h] at this;cases this)
   clear x;by_cases h1:((s[k].toNat:Nat):Int)<48
   .have r:=qh (Fe (o.o (by rw[<- p.o];unfold fQ;simp;omega)));clear j;go_wp2;go_ret2;exact⟨dC r.o.symm,rfl⟩
   .by_cases h2:57<((s[k].toNat:Nat):Int)
    .have r:=qh (Fe (o.o (by rw[<- p.o];unfold fQ;simp;omega)));clear j;go_wp2;go_ret2;exact⟨dC r.o.symm,rfl⟩
    .have g:(s.data.toList.take (k+1)).all fQ=true:=by
      rw[z.o,List.all_append,q.o.2,bj,<- p.o];unfold fQ;simp;omega
     have f:v*10+(s[k].toNat - 48)=dO (s.data.toList.take (k+1)):=by rw[z.o,Cj,<- q.o.1,<- p.o]
     have u:=IJ _ g;have m:dO (s.data.toList.take (k+1))<=1000000000000000:=by
      have:10 ^ (s.data.toList.take (k+1)).length<=10 ^ 15:=bm (by omega) (by rw[List.length_take,d.o];omega);omega
     rw[<- f] at m;have C:=qh (And.intro f g);have D:48<=s[k].toNat:=by omega
     clear j g f u;go_wp2
     go_round
     case rel=>exact⟨k+1,v*10+(s[k].toNat - 48),by omega,by go_num,by first | go_num | (congr 1;omega),m,C⟩
     case measure=>simp[intOf];omega
  .have B:=qh (show tH s.data.toList = .tuple #[al am (v:Nat),ap true] by
    have h:=q.o;rw[aE (by rw[d.o];omega)] at h;rw[Vd t.o (by rw[d.o];omega) h.2,h.1])
   go_wp2;go_ret2;exact⟨dC B.o.symm,rfl⟩
abbrev Tab (w:World):Prop:=Lib.TabIs lM w "internal/strconv.uint64pow10" .u64 Lib.pow10Tab
theorem Tab.below {w w':World} (h:Tab w) (c:DD w w'):Tab w':=by
 unfold Tab Lib.TabIs World.var? at *;cases hg:lM.globalNamed "internal/strconv.uint64pow10" with
 | none=>rw[hg] at h;cases h
 | some g =>
  rw[hg] at h;simp only[Option.bind_some] at h ⊢;have a:g<w.heap.size:=by
   rcases a2 g w.heap.size with b | b
   .exact b
   .rw[a7 b] at h;cases h
  rw[c.block g a];exact h
theorem kC (n:Int) (w:World) (c : -9223372036854775808<=n) (f:n<=9223372036854775807) (a:Tab w) :
  Calls lM 28 #[al am n] w λ e w'=>(∃ t:ByteArray,e = aq (an t)/\t.data.toList=aV n)/\DD w w':=
 (Tryz.strconv_Itoa n c f w a).mono λ _ _ ⟨b,_,_,d⟩=>⟨⟨_,b,rfl⟩,d▸Lib.below_grow _ w (ar _) _ _⟩
def strLen (v:Value):Nat:=match v with
 | an t=>t.size
 | _=>0
theorem tJ (n:Int) (W:Nat) (w:World) (y:0<=n) (q:n<=9223372036854775807) (x:W<=20) (a:Tab w) :
  Calls lM 262 #[al am n,al am (W:Nat)] w λ e w'=>(∃ t:ByteArray,e = aq (an t)/\t.data.toList=nR W n)/\DD w w':=by
 have o:=qh a;clear a;go_enter func262,ntmps262;go_wp2_with fail;refine (kC n w (by omega) q o.o).mono ?_;rintro e v ⟨⟨p,rfl,b⟩,g⟩;obtain⟨L,j⟩:=af ((aV n).length);have c:=qh b;have r:L<=20:=by
  obtain⟨m,rfl⟩:∃ m:Nat,n=m:=⟨n.toNat,by omega⟩;rw[ku] at j;have:=gI 18 m (by omega);omega
 have h:=qh j;clear b j;go_wp2_with (fail)
 go_loop [5] (λ s=>∃ (t:ByteArray) (k:Nat),s = an t/\Hid (t.data.toList=zeros k ++ aV n)/\k<=W - L) (λ s=>W - strLen s)
 case atStart=>exact⟨p,0,rfl,qh c.o,av _⟩
 case round =>
  obtain⟨t,k,rfl,d,z⟩:=hrel;have i:t.size=k+L:=by
   have:t.data.toList.length=k+L:=by rw[d.o];simp[zeros,h.o]
   exact this
  have l:t.size<=k+L:=by omega
  have u:k+L<=t.size:=by omega
  clear i;by_cases hlt:t.size<W
  .go_wp2_with (fail)
   go_round
   case rel =>
    refine⟨⟨#[48]⟩ ++ t,k+1,rfl,qh ?_,by omega⟩;rw[eH,d.o,show zeros (k+1)=48 :: zeros k from rfl];rfl
   case measure =>
    have:(⟨#[48]⟩ ++ t:ByteArray).size=t.size+1:=by rw[ByteArray.size_append];show 1+t.size=_;omega
    simp[strLen,this];omega
  .have f:=qh (show t.data.toList=nR W n by
    rw[d.o];unfold nR;rw[h.o,show k=W - L by omega])
   clear d c h;go_wp2;go_ret;exact⟨⟨_,rfl,f.o⟩,g⟩
theorem NM (t:ByteArray) (w:World) (h:t.size<=100) :
  Calls lM 273 #[an t,an ⟨#[48]⟩] w λ e w'=>(∃ u:ByteArray,e = aq (an u)/\u.data.toList=Lib.trimRightB t.data.toList 48)/\w=w':=
 (Tryz.strings_TrimRight_one t 48 (by decide) w (by omega)).mono λ _ _ ⟨a,b⟩=>⟨⟨_,a,rfl⟩,b.symm⟩
theorem Ff (n:Int) (w:World) (h1 : -999999999999999<=n) (h2:n<=999999999999999) (c:Tab w) :
  Calls lM 258 #[al am n] w λ e w'=>(∃ t:ByteArray,e = aq (an t)/\t.data.toList=pY n)/\DD w w':=by
 have H:=qh c;clear c;obtain⟨a,o⟩:=af (nD n);have p:0<=a/\a<=999999999999999:=by rw[<- o];unfold nD;split <;> omega
 obtain⟨Q,O⟩:=p;obtain⟨F,hF⟩:=af (a / 10000);obtain⟨M,r⟩:=af (a % 10000);have Z:0<=F:=by omega
 have W:F<=99999999999:=by omega
 have z:0<=M:=by omega
 have R:M<10000:=by omega
 have G:=qh (show pY n=(if n<0 then [45] else []) ++ aV F ++ (if ja M = [] then [] else 46 :: ja M) by unfold pY;rw[o,hF,r]);have U:=qh (show (aV F).length<=11 by
  obtain⟨m,rfl⟩:∃ m:Nat,F=m:=⟨F.toNat,by omega⟩;rw[ku];exact gI 10 m (by omega))
 have i:=qh (show (nR 4 M).length=4/\(ja M).length<=4 by
  obtain⟨m,rfl⟩:∃ m:Nat,M=m:=⟨M.toNat,by omega⟩;exact⟨sK (gI 3 m (by omega)),(NK (by omega)).2⟩)
 have D:=qh o;have A:=qh hF;have x:=qh r;clear o hF r;go_enter func258,ntmps258
 go_upto_if 7 with (fail)
 go_cut [0,3] (λ v s Y=>v = al am a/\(∃ l:ByteArray,s = an l/\Hid (l.data.toList=if n<0 then [45] else [])/\l.size<=1)/\Y=w)
 case first =>
  by_cases hn:n<0
  .have y:=qh (show a = -n by rw[<- D.o];unfold nD;rw[if_pos hn]);go_wp2_with (fail)
   go_meet
   exact⟨by rw[y.o],⟨_,rfl,qh (by rw[if_pos (by omega)]),by decide⟩,rfl⟩
  .have y:=qh (show a=n by rw[<- D.o];unfold nD;rw[if_neg hn]);go_wp2_with (fail)
   go_meet
   exact⟨by rw[y.o],⟨_,rfl,qh (by rw[if_neg (by omega)]),by decide⟩,rfl⟩
 case rest =>
 obtain⟨rfl,⟨l,rfl,J,P⟩,rfl⟩:=hcut;have eF:a / 10000=F:=A.o;have eM:a % 10000=M:=x.o;go_wp2_with fail;refine (kC F _ (by omega) (by omega) H.o).mono ?_;rintro e N ⟨⟨X,rfl,g⟩,b⟩;have S:X.size<=11:=by rw[nI g];exact U.o
 have K:=qh g;have C:=qh (H.o.below b);clear g;go_wp2_with fail;refine (tJ M 4 N z (by omega) (by omega) C.o).mono ?_;rintro e L ⟨⟨E,rfl,d⟩,j⟩;have I:E.size<=4:=by rw[nI d,i.o.1];exact ar _
 have V:=qh d;have h:=b.trans (j.mono b.size);clear d b j;go_wp2_with fail;refine (NM E L (by omega)).mono ?_;rintro e w3 ⟨⟨u,rfl,k⟩,rfl⟩;rw[V.o] at k;have T:u.size<=4:=by rw[nI k];exact i.o.2
 have B:=qh (show u.data.toList=ja M from k);clear k;by_cases h0:u=⟨#[]⟩
 .have q:=qh (show ja M = [] by rw[<- B.o,h0]);subst h0;go_wp2;go_ret;exact⟨⟨_,rfl,by rw[G.o,eH,J.o,K.o,if_pos q.o,bd]⟩,h⟩
 .have f:u.data.toList≠[]:=λ e=>h0 (uG e);have se:u.toList.isEmpty=false:=by rw[ByteArray.toList_eq];simpa using f
  have q:=qh (show ja M≠[] by rw[<- B.o];exact f);clear f h0;go_wp2;go_ret;exact⟨⟨_,rfl,by rw[G.o,eH,eH,eH,J.o,K.o,if_neg q.o,B.o];simp⟩,h⟩
def Mx (w:World):Prop:=∃ m,w.cell? ⟨1,0,none⟩=some (al am m)
theorem Mx.below {w w':World} (h:Mx w) (b:DD w w'):Mx w':=by
 obtain⟨m,a⟩:=h;exact⟨m,Below.cell_of b a⟩
theorem JS (s p:ByteArray) (w:World) :
  Calls lM 337 #[an s,an p] w λ e w'=>(∃ t:ByteArray,e = aq (an t)/\t.data.toList=bn s.data.toList p.data.toList)/\w=w':=
 (Tryz.strings_TrimPrefix s p w).mono λ _ _ ⟨a,b⟩=>⟨⟨_,a,rfl⟩,b.symm⟩
theorem acv (s:ByteArray) (c:UInt8) (w:World) (i:s.size<=2000000) (d:Mx w) :
  Calls lM 60 #[an s,an ⟨#[c]⟩] w λ e w'=>(∃ a b:ByteArray,∃ f:Bool,e = aq (.tuple #[an a,an b,ap f])/\a.data.toList=(a3 s.data.toList [c]).1/\b.data.toList=(a3 s.data.toList [c]).2.1)/\DD w w':=by
 obtain⟨m,d⟩:=d;exact (Tryz.strings_Cut s ⟨#[c]⟩ m w (by omega) d).mono λ _ _ ⟨g,k,h⟩=>⟨⟨_,_,_,g,rfl,rfl⟩,h▸(Below.refl _ _).drewN k⟩
theorem IK (s:ByteArray) (c:UInt8) (w:World) (f:s.size<=2000000) (a:Mx w) :
  Calls lM 338 #[an s,an ⟨#[c]⟩] w λ e w'=>∃ ps:List ByteArray,e = aq (ao (some ⟨w.heap.size,0,none⟩) ps.length ps.length)/\w'=w.alloc (.cells (ps.map aw).toArray 9)/\ps.map (·.data.toList)=Lib.split s.data.toList [c]/\ps.length<=s.size+1:=by
 obtain⟨m,a⟩:=a;refine (Tryz.strings_Split s ⟨#[c]⟩ m w (by omega) a (ar 1)).mono λ _ _ ⟨b,d⟩=>⟨Lib.splitB ⟨#[c]⟩ 0 (Lib.countB s ⟨#[c]⟩) s,?_,d,Lib.splitB_data _ _ _ _,?_⟩
 .rw[b,bp ⟨#[c]⟩ (ar 1) 0 _ s rfl]
 .rw[bp ⟨#[c]⟩ (ar 1) 0 _ s rfl];have:=Lib.countB_le ⟨#[c]⟩ (ar 1) s.size s (ar _);omega
theorem jJ (l:List UInt8):∃ (a:Nat) (b:Bool),dD l=(a,b)/\tH l = .tuple #[al am (a:Nat),ap b]/\a<=1000000000000000:=by
 have d:(dD l).1<=1000000000000000:=by
  unfold dD;split
  .exact av _
  .rename_i h;split
   .rename_i c;have:=IJ l c;have:10 ^ l.length<=10 ^ 15:=bm (by omega) (by simp only[not_or] at h;omega);show dO l<=_;omega
   .exact av _
 exact⟨_,_,rfl,rfl,d⟩
def Hu (k:Int) (o:Option Int):Value:=match o with
 | some n=>.tuple #[.agg #[al am k,al am n,an ⟨#[]⟩,ao none 0 0],ap true]
 | none=>.tuple #[.agg #[al am 0,al am 0,an ⟨#[]⟩,ao none 0 0],ap false]
theorem Fg (s:ByteArray) (w:World) (hs:s.size<=2000000) (hm:Mx w) :
  CS 335 #[an s] w (Hu 2 (jg s.data.toList)):=by
 have HM:=qh hm;clear hm;go_enter func335,ntmps335;go_wp2_with fail;obtain⟨W,G⟩:=aG ((w.alloc (.cells #[al am 0,al am 0,an ⟨#[]⟩,ao none 0 0] 65 (0,0))));have i:DD w W:=by rw[G];exact ((Below.refl _ w).alloc (ar _) _)
 have B0:ah W (w.heap.size) 65 #[al am 0,al am 0,an ⟨#[]⟩,ao none 0 0]:=by
  rw[G];have:=ah.new w 65 #[al am 0,al am 0,an ⟨#[]⟩,ao none 0 0];exact this
 have y:W.heap.size=w.heap.size+1:=by rw[G];simp
 rw[<- G];clear G y;refine (JS s ⟨#[45]⟩ W).mono ?_;rintro e S ⟨⟨d,rfl,V⟩,rfl⟩;have aa:d.size<=s.size:=by rw[nI V];exact Lib.trimPrefix_le _ _
 have HD:=qh V;clear V;go_wp2_with fail;refine (acv d 46 W (by omega) (HM.o.below i)).mono ?_;rintro e S ⟨⟨Y,M,fd,rfl,E,B⟩,p⟩;have T:M.size<=d.size:=by
  rw[nI B];unfold a3;split
  .simp only[List.length_drop];show _<=d.data.toList.length;omega
  .simp
 obtain⟨L,Z⟩:=af (M.size);have F:=qh E;have r:=qh B;have B0:=B0.below p B0.lt;have i:=i.trans (p.mono i.size);have Q:=qh Z;have ab:L<=2000000:=by omega
 clear E B p Z T;go_wp2_with (fail)
 go_loop [6] (λ v=>∃ (t:ByteArray) (k:Nat),v = an t/\Hid (t.data.toList=M.data.toList ++ zeros k)/\k<=4 - L) (λ v=>4 - strLen v)
 case atStart=>exact⟨M,0,rfl,qh (by simp[zeros]),av _⟩
 case round =>
  obtain⟨t,k,rfl,N,hk⟩:=hrel;have y:t.size=L+k:=by
   have:t.data.toList.length=L+k:=by rw[N.o,<- Q.o];simp[zeros]
   exact this
  have O:t.size<=L+k:=by omega
  have U:L+k<=t.size:=by omega
  clear y;by_cases hlt:t.size<4
  .go_wp2_with (fail)
   go_round
   case rel =>
    refine⟨t ++ ⟨#[48]⟩,k+1,rfl,qh ?_,by omega⟩;rw[eH,N.o,be];unfold zeros;rw[List.replicate_succ']
   case measure =>
    have:(t ++ ⟨#[48]⟩:ByteArray).size=t.size+1:=by rw[ByteArray.size_append];rfl
    simp[strLen,this];omega
  .have HP:=qh (show t.data.toList=XR (a3 d.data.toList [46]).2.1 4 by
    rw[N.o,r.o];unfold XR;rw[<- nI r.o,Q.o,show k=4 - L by omega])
   clear N;obtain⟨a,u,z,J,ha⟩:=jJ Y.data.toList;obtain⟨b,A,x,H,hb⟩:=jJ t.data.toList;have X:=qh (z);have P:=qh (x);have C:=qh J;have I:=qh H;have R:=qh (show jg s.data.toList=if u=true/\A=true/\t.size<=4/\a<=99999999999 then
     some (if d.size<s.size then -((a*10000+b:Nat):Int) else ((a*10000+b:Nat):Int)) else none by
    unfold jg;simp only[];rw[<- show d.data.toList=bn s.data.toList [45] from HD.o,<- HP.o,<- F.o,z,x];rfl)
   clear z x J H HD F r HP Q O U hk;go_wp2_with fail;refine (mM Y S).mono ?_;rw[C.o];rintro e w2 ⟨rfl,rfl⟩;go_wp2_with fail;refine (mM t S).mono ?_;rw[I.o];rintro e w2 ⟨rfl,rfl⟩;clear C I X P;obtain⟨fK,lD,gJ,lF,jC,rD,jD,rE⟩:=ah.z4 B0;by_cases hcond:u=true/\A=true/\t.size<=4/\a<=99999999999
   .obtain⟨rfl,rfl,K,q⟩:=hcond;by_cases hneg:d.size<s.size
    .have o:=qh (show Hu 2 (jg s.data.toList) = .tuple #[.agg #[al am 2,al am (-((a:Int)*10000+b)),an ⟨#[]⟩,ao none 0 0],ap true] by
      rw[R.o,if_pos ⟨rfl,rfl,K,q⟩,if_pos hneg];show bq #[.agg #[al am 2,al am (-((a*10000+b:Nat):Int)),_,_],_]=_;rw[show ((a*10000+b:Nat):Int)=(a:Int)*10000+b by omega])
     go_wp2;obtain⟨D,j,m,n⟩:=dL B0 i (al am 2) (al am (-((a:Int)*10000+b))) (an ⟨#[]⟩) (ao none 0 0);rw[<- j];clear j;obtain⟨l,f,g,c⟩:=ah.c4 m;refine bodyPost_ret (v:=.tuple #[.agg #[al am 2,al am (-((a:Int)*10000+b)),an ⟨#[]⟩,ao none 0 0],ap true]) (by simp[results,results335,go_sem,l,f,g,c]) rfl ⟨dC o.o.symm,n⟩
    .have o:=qh (show Hu 2 (jg s.data.toList) = .tuple #[.agg #[al am 2,al am ((a:Int)*10000+b),an ⟨#[]⟩,ao none 0 0],ap true] by
      rw[R.o,if_pos ⟨rfl,rfl,K,q⟩,if_neg hneg];show bq #[.agg #[al am 2,al am ((a*10000+b:Nat):Int),_,_],_]=_;rw[show ((a*10000+b:Nat):Int)=(a:Int)*10000+b by omega])
     go_wp2;obtain⟨D,j,m,n⟩:=dL B0 i (al am 2) (al am ((a:Int)*10000+b)) (an ⟨#[]⟩) (ao none 0 0);rw[<- j];clear j;obtain⟨l,f,g,c⟩:=ah.c4 m;refine bodyPost_ret (v:=.tuple #[.agg #[al am 2,al am ((a:Int)*10000+b),an ⟨#[]⟩,ao none 0 0],ap true]) (by simp[results,results335,go_sem,l,f,g,c]) rfl ⟨dC o.o.symm,n⟩
   .have o:=qh (show Hu 2 (jg s.data.toList) = .tuple #[.agg #[al am 0,al am 0,an ⟨#[]⟩,ao none 0 0],ap false] by rw[R.o,if_neg hcond];rfl);rcases u with _ | _
    .clear hcond;go_wp2;obtain⟨D,j,m,n⟩:=dL B0 i (al am 0) (al am 0) (an ⟨#[]⟩) (ao none 0 0);rw[<- j];clear j;obtain⟨l,f,g,c⟩:=ah.c4 m;refine bodyPost_ret (v:=.tuple #[.agg #[al am 0,al am 0,an ⟨#[]⟩,ao none 0 0],ap false]) (by simp[results,results335,go_sem,l,f,g,c]) rfl ⟨dC o.o.symm,n⟩
    rcases A with _ | _
    .clear hcond;go_wp2;obtain⟨D,j,m,n⟩:=dL B0 i (al am 0) (al am 0) (an ⟨#[]⟩) (ao none 0 0);rw[<- j];clear j;obtain⟨l,f,g,c⟩:=ah.c4 m;refine bodyPost_ret (v:=.tuple #[.agg #[al am 0,al am 0,an ⟨#[]⟩,ao none 0 0],ap false]) (by simp[results,results335,go_sem,l,f,g,c]) rfl ⟨dC o.o.symm,n⟩
    by_cases K:t.size<=4
    .have q:99999999999<a:=by
      rcases a2 99999999999 a with h | h
      .exact h
      .exact absurd ⟨rfl,rfl,K,h⟩ hcond
     clear hcond;go_wp2;obtain⟨D,j,m,n⟩:=dL B0 i (al am 0) (al am 0) (an ⟨#[]⟩) (ao none 0 0);rw[<- j];clear j;obtain⟨l,f,g,c⟩:=ah.c4 m;refine bodyPost_ret (v:=.tuple #[.agg #[al am 0,al am 0,an ⟨#[]⟩,ao none 0 0],ap false]) (by simp[results,results335,go_sem,l,f,g,c]) rfl ⟨dC o.o.symm,n⟩
    .clear hcond;go_wp2;obtain⟨D,j,m,n⟩:=dL B0 i (al am 0) (al am 0) (an ⟨#[]⟩) (ao none 0 0);rw[<- j];clear j;obtain⟨l,f,g,c⟩:=ah.c4 m;refine bodyPost_ret (v:=.tuple #[.agg #[al am 0,al am 0,an ⟨#[]⟩,ao none 0 0],ap false]) (by simp[results,results335,go_sem,l,f,g,c]) rfl ⟨dC o.o.symm,n⟩
theorem aiE:(lM.info? 9).map (λ i=>(i.zero,i.size,i.bytes))=some (some (.string ByteArray.empty),1,16):=by kernel_rfl
theorem Yu {w:World} {B' n:Nat} {v:Value} {xs:List ByteArray} (h:w.ownsRow B' 9 1 v n (xs.map aw)):n=xs.length/\((v = ao none 0 0/\xs = [])\/∃ g c,v = ao (some ⟨g,0,none⟩) xs.length c/\g<w.heap.size/\xs.length<=c/\∀ j x,xs[j]?=some x->w.cell? ⟨g,0+j,none⟩=some (an x)):=by
 obtain⟨k,i⟩:=id h;have m:n=xs.length:=by simp at k;omega
 subst m;refine⟨rfl,?_⟩;rcases i with ⟨rfl,l⟩ | ⟨g,a,e,rfl,q,d,e3,o,p⟩
 .exact .inl ⟨rfl,List.eq_nil_of_length_eq_zero l⟩
 .refine .inr ⟨g,a,rfl,?_,e3,λ j x f=>?_⟩
  .rcases a2 g w.heap.size with b | b
   .exact b
   .rw[a7 b] at d;cases d
  .have:=h.cells (g:=g) rfl j (an x) (by simp[f])
   rwa [Addr.add_lit] at this
theorem NP {B' n:Nat} {v:Value} (xs:List ByteArray) (a:ByteArray) (w:World) (h:w.ownsRow B' 9 1 v n (xs.map aw)) (i:xs.length<=140737488355328)
  (d:(ax (xs.map (·.data.toList)) a.data.toList).length<=140737488355328) :
  Calls lM 264 #[v,an a] w λ e w'=>(∃ t:ByteArray,e = aq (an t)/\t.data.toList=ax (xs.map (·.data.toList)) a.data.toList)/\DD w w':=by
 obtain⟨rfl,⟨rfl,rfl⟩ | ⟨g,c,rfl,k,m,b⟩⟩:=Yu h
 .exact (Tryz.strings_Join_none none 0 a w).mono λ _ _ ⟨f,l⟩=>⟨⟨_,f,rfl⟩,l▸Below.refl _ _⟩
 .exact (Tryz.strings_Join g 0 c xs a w b k i m d).mono λ _ _ ⟨f,j⟩=>⟨⟨_,f,rfl⟩,j⟩
theorem own_below {w w':World} {B size n:Nat} {e:TypeId} {v:Value} {xs:List Value} (h:w.ownsRow B e size v n xs) (o:DD w w'):w'.ownsRow B e size v n xs:=by
 refine⟨h.1,h.2.imp id ?_⟩;rintro ⟨g,b,a,m,k,f,e3,i,j,l⟩;have c:g<w.heap.size:=by
  rcases a2 g w.heap.size with d | d
  .exact d
  .rw[a7 d] at f;cases f
 exact⟨g,b,a,m,k,(o.block g c).trans f,e3,i,j,l⟩
def xM (l:List Int):List ByteArray:=l.map λ c=>⟨(gV c).toArray⟩
theorem Fh (l:List Int):(xM l).map (·.data.toList)=l.map gV:=by simp[xM]
theorem NQ {c:Int} (h:1<=c/\c<=999):(gV c).length<=4:=by
 rw[rC (by omega),a6];have:=gI 2 c.toNat (by omega);omega
theorem Bq:∀ (l:List Int),(∀ c∈l,1<=c/\c<=999)->(ax (l.map gV) [44]).length<=5*l.length
 | [],_=>by simp[Lib.join_nil]
 | [c],h=>by
  rw[aM,bg,Lib.join_one];have:=NQ (h c (aL ..));simp;omega
 | c :: d :: r,h=>by
  have e:ax ((c :: d :: r).map gV) [44]=gV c ++ 44 :: ax ((d :: r).map gV) [44]:=by
   simp only[aM];rw[br,br];simp[Lib.joinTail]
  have:=Bq (d :: r) (λ x a=>h x (a5 _ a));have:=NQ (h c (aL ..));rw[e];simp only[a4,a6] at *;omega
theorem NR (A:Option Addr) (l:List Int) (c B1:Nat) (w:World) (hl:l.length<=1000) (Q:∀ c∈l,1<=c/\c<=999) (s:Reads w B1 1 A l.length (bK am l)) (J:B1<=w.heap.size) (p:Tab w) :
  Calls lM 260 #[ao A l.length c] w λ e w'=>(∃ t:ByteArray,e = aq (an t)/\t.data.toList=yR l)/\DD w w':=by
 have W:=qh p;have T:=qh (s.more J);have N:=qh Q;clear p s Q;obtain⟨i0,K,H,L,G⟩:=info_parts aiE;go_enter func260,ntmps260;go_wp2;go_loopw [3,8] (λ v i wr=>∃ k:Nat,k<=l.length/\i = al am k/\wr.ownsRow w.heap.size 9 1 v k ((xM (l.take k)).map aw)/\DD w wr) (λ _ i _=>l.length - (intOf i).toNat)
 case atStart=>exact⟨0,av _,rfl,World.ownsRow_nil _ _ _ _,Below.refl _ _⟩
 case round =>
  obtain⟨k,hk,rfl,o,f⟩:=hrel;have y:=qh o;clear o;have P:=f.size;by_cases hlt:k<l.length
  .obtain⟨ad,u,rfl,hb,B,d⟩:=(T.o.below f).at_ hlt;obtain⟨z,rfl⟩:=oU _ _ _ _ B;obtain⟨x,s⟩:=af (l[k]);have C:=N.o l[k] (ay z);rw[s] at C d;obtain⟨aa,X⟩:=C;have R:=qh s;have M:=qh (W.o.below f);clear B s;go_wp2_with fail;refine (kC x wr (by omega) (by omega) M.o).mono ?_;rintro e O ⟨⟨t,rfl,q⟩,n⟩;have F:=qh q;have a:=own_below y.o n;have D:=f.trans (n.mono P);have Z:=D.size;have I:t.size<=20:=by
    rw[nI q];obtain⟨m,rfl⟩:∃ m:Nat,x=m:=⟨x.toNat,by omega⟩;rw[ku];have:=gI 2 m (by omega);omega
   have V:=qh (show (xM (l.take (k+1))).map aw=(xM (l.take k)).map aw ++ [an (⟨#[35]⟩ ++ t)] by
    rw[aD z,R.o];unfold xM;rw[bs,bs];congr 1;show [aw _]=_;rw[uG (show (⟨#[35]⟩ ++ t:ByteArray).data.toList=gV x by rw[eH,F.o];rfl)])
   clear q d y n;go_wp2_with (at_builtin;refine wpList_append_own _ rfl _ _ 22 rfl w.heap.size 9 i0 (.string ByteArray.empty) 1 16 underlying22 K H L G rfl (by decide) _ _ _ rfl (a.alloc _) ⟨O.heap.size,0,none⟩ 1 1 [.string (⟨#[35]⟩ ++ t)] rfl rfl ?c1 ?c2 ?c3 ?c4 ?c5 ?_)
   case c1=>intro j u hj;cases j <;> simp_all[go_sem]
   case c2=>intro u B;simp only[aR] at B;subst B;rfl
   case c3=>unfold maxLen;omega
   case c4=>omega
   case c5=>simp;omega
   intro v2 w3 b E _;have r:DD w w3:=(D.alloc (by omega) _).grown E (by simp;omega) (λ g Y=>(a.lt g Y).1);have y:=qh (show w3.ownsRow w.heap.size 9 1 v2 (k+1) ((xM (l.take (k+1))).map aw) by rw[V.o];exact b);clear b E a;go_wp2;go_roundw
   case rel=>exact⟨k+1,by omega,by go_num,y.o,r⟩
   case measure=>simp[intOf];omega
  .have U:=qh (show wr.ownsRow w.heap.size 9 1 _ k ((xM l).map aw) by
    have h:=y.o
    rwa [aE (by omega)] at h)
   have S:=Bq l N.o;clear y;go_wp2_with fail;refine (NP (xM l) ⟨#[44]⟩ wr U.o (by unfold xM;simp;omega) (by rw[Fh];show (ax _ [44]).length<=_;omega)).mono ?_;rintro e O ⟨⟨t,rfl,q⟩,n⟩;rw[Fh] at q;have F:=qh (show t.data.toList=ax (l.map gV) [44] from q);have I:t.size<=5000:=by rw[nI F.o];omega
   have r:=f.trans (n.mono P);clear q;go_wp2;go_ret;exact⟨⟨_,rfl,by rw[eH,eH,F.o];rfl⟩,r⟩
end
open Go.RowKit
theorem Yv {a b c a' d c':Int} (f:a=a') (e:b=d) (g:c=c'):Ending.returned (.tuple #[al am a,al am b,al am c]) = aq (.tuple #[al am a',al am d,al am c']):=by rw[f,e,g]
theorem Yw (y:Int) (w:World) (a:0<=y) (b:y<=10000) :
  E5 311 #[al am y] w (ap (Cal.lp y)):=by
 go_enter func311,ntmps311;go_wp2
 all_goals (go_ret;exact⟨aH (by simp_all[Cal.lp,Bool.beq_eq_decide_eq]),rfl⟩)
theorem tK (y m:Int) (w:World) (a:0<=y) (b:y<=10000) :
  E5 301 #[al am y,al am m] w (al am (Cal.Nb y m)):=by
 go_enter func301,ntmps301;go_wp2_with (go_at_call 311;refine (Yw _ _ a b).mono ?_;rintro e w' ⟨rfl,rfl⟩)
 all_goals (go_ret;exact⟨aj (by simp_all[Cal.Nb]),rfl⟩)
theorem mP (y m d:Int) (w:World) (f:1600<=y) (c:y<=2400) (o:1<=m) (q:m<=12) (n:0<=d) (l:d<=40) :
  E5 275 #[al am y,al am m,al am d] w (al am (Cal.num y m d)):=by
 have p:=Cal.SE y f c;go_enter func275,ntmps275;go_wp2
 go_loop [9,8] (λ k s=>∃ j:Int,1<=j/\j<=m/\k = al am j/\s = al am (Cal.base y+Cal.Es y j)) (λ k _=>(m - intOf k).toNat)
 case atStart=>exact⟨1,by omega,by omega,rfl,by rw[Cal.DJ];unfold Cal.base;simp⟩
 case round =>
  obtain⟨j,a,b,rfl,rfl⟩:=hrel;have i:=Cal.Qi y j;have h:=Cal.Eu y j;by_cases hlt:j<m
  .have cs:=Cal.lJ y j a (by omega);have g:=qh cs;clear cs;go_wp2_with (go_at_call 301;refine (tK _ _ _ (by omega) (by omega)).mono ?_;rintro e w' ⟨rfl,rfl⟩)
   go_round
   case rel=>exact⟨j+1,by omega,by omega,rfl,by rw[g.o,Int.add_assoc]⟩
   case measure=>simp[intOf];omega
  .obtain rfl:j=m:=by omega
   go_wp2;go_ret;exact⟨aj (by unfold Cal.num;rfl),rfl⟩
theorem QD (y m d:Int) (a:1600<=y) (b:y<=2400) (e:0<=d) (c:d<=40) : -200000<=Cal.num y m d/\Cal.num y m d<=200000:=by
 have:=Cal.SE y a b;have:=Cal.Qi y m;unfold Cal.num;omega
theorem Tc (y m:Int):Cal.num y m 1=Cal.base y+Cal.Es y m:=by unfold Cal.num;omega
theorem aff (y:Int):Cal.num y 1 1=Cal.base y:=by unfold Cal.num;rw[Cal.DJ];omega
theorem Ve (n:Int) (w:World) (A : -25567<=n) (z:n<=84005) :
  E5 261 #[al am n] w (.tuple #[al am (Cal.cy n),al am (Cal.cm n),al am (Cal.cd n)]):=by
 obtain⟨o,r,s⟩:=Cal.XO A z;have c:∀ g:Int,Cal.base g<=n->1899<=g->g<=2199->Cal.Io n=g->E5 261 #[al am n] w (.tuple #[al am (Cal.cy n),al am (Cal.cm n),al am (Cal.cd n)]):=by
  intro g o r s B;have l:=Cal.ab3 A z;obtain⟨W,V,X,U⟩:=l;have L:=qh B;clear B;by_cases hn:n<0
  all_goals
   have u:=qh L.o;unfold Cal.Io at u;go_enter func261,ntmps261;go_wp2
   go_loop [2] (λ t=>∃ y:Int,Cal.base y<=n/\1899<=y/\y<=2199/\t = al am y) (λ t=>(2200 - intOf t).toNat)
   case atStart =>
    refine⟨g,o,r,s,?_⟩;rw[<- u.o]
    first | rw[if_pos hn] | rw[if_neg (by omega)]
   case round =>
    obtain⟨y,Y,T,Z,rfl⟩:=hrel;have f:=aff (y+1);have k:=QD (y+1) 1 1 (by omega) (by omega) (by omega) (by omega);obtain⟨Q,E⟩:=k;by_cases hc:Cal.base (y+1)<=n
    .have j:Cal.num (y+1) 1 1<=n:=by omega
     have R:y+1<=2199:=by
      by_cases h:y+1<=2199
      .exact h
      .have:=Cal.wC;have:=Cal.kU (show 2200<=y+1 by omega);omega
     clear f;go_wp2_with (go_at_call 275;refine (mP _ _ _ _ (by omega) (by omega) (by omega) (by omega) (by omega) (by omega)).mono ?_;rintro e w' ⟨rfl,rfl⟩)
     go_round
     case rel=>exact⟨y+1,hc,by omega,R,rfl⟩
     case measure=>simp[intOf];omega
    .have j:n<Cal.num (y+1) 1 1:=by omega
     have N:=Cal.Aw y;have S:n<Cal.base y+Cal.yd y:=by omega
     clear f N hc;go_wp2_with (go_at_call 275;refine (mP _ _ _ _ (by omega) (by omega) (by omega) (by omega) (by omega) (by omega)).mono ?_;rintro e w' ⟨rfl,rfl⟩)
     go_loop [3] (λ t=>∃ m:Int,1<=m/\m<=12/\t = al am m/\Cal.base y+Cal.Es y m<=n) (λ t=>(12 - intOf t).toNat)
     case atStart=>exact⟨1,by omega,by omega,rfl,by rw[Cal.DJ];omega⟩
     case round =>
      obtain⟨m,x,C,rfl,K⟩:=hrel;have v:=Tc y (m+1);have k:=QD y (m+1) 1 (by omega) (by omega) (by omega) (by omega);obtain⟨P,F⟩:=k;have i:=QD y m 1 (by omega) (by omega) (by omega) (by omega);obtain⟨I,O⟩:=i;by_cases hd:m<12/\Cal.base y+Cal.Es y (m+1)<=n
      .obtain⟨G,p⟩:=hd;have J:Cal.num y (m+1) 1<=n:=by omega
       clear v;go_wp2_with (go_at_call 275;refine (mP _ _ _ _ (by omega) (by omega) (by omega) (by omega) (by omega) (by omega)).mono ?_;rintro e w' ⟨rfl,rfl⟩)
       go_round
       case rel=>exact⟨m+1,by omega,by omega,rfl,p⟩
       case measure=>simp[intOf];omega
      .have D:n<Cal.base y+Cal.Es y m+Cal.Nb y m:=by
        by_cases h12:m=12
        .have:=Cal.lJ y 12 (by omega) (by omega);have M:=Cal.Qh y;subst h12;simp only[show (12:Int)+1=13 from rfl] at *;omega
        .have:=Cal.lJ y m x C;omega
       have a:=Cal.Ey K D x C;have b:=Tc y m;have q:Hid (Cal.cy n=y/\Cal.cm n=m/\Cal.cd n=n - Cal.num y m 1+1):=⟨a.cy,a.cm,by rw[a.cd,b]⟩;have d:m<12->n<Cal.num y (m+1) 1:=λ h=>by omega
       clear hd v b a;by_cases h12:m<12
       all_goals
        first | have H:=d h12 | skip
        clear d;go_wp2_with (go_at_call 275;refine (mP _ _ _ _ (by omega) (by omega) (by omega) (by omega) (by omega) (by omega)).mono ?_;rintro e w' ⟨rfl,rfl⟩)
        go_ret3
        exact⟨Yv q.o.1.symm q.o.2.1.symm q.o.2.2.symm,rfl⟩
 exact c _ o r s rfl
theorem NS (n:Int) (w:World) (b : -25567<=n) (a:n<=84005) :
  CS 343 #[al am n] w (.agg #[al am 6,al am n,an ⟨#[]⟩,ao none 0 0]):=by
 have b1:aW n (-25567) 84005=false:=oV (by omega) (by omega);go_enter func343,ntmps343;go_wp2_with (go_at_call 121;refine (bG _ _ _ _).mono ?_;rintro e w' ⟨rfl,rfl⟩);refine bodyPost_ret (v:=.agg #[al am 6,al am n,an ⟨#[]⟩,ao none 0 0]) (by simp[results,results343,go_sem]) rfl ⟨rfl,by first | exact (Below.refl _ _).alloc (ar _) _ | exact (((Below.refl _ _).alloc (ar _) _).setCell (ar _) _)⟩
theorem JU (n:Int) (w:World) (h:n < -25567\/84005<n) :
  CS 343 #[al am n] w (.agg #[al am 0,al am 0,an ⟨#[]⟩,ao none 0 0]):=by
 have b1:aW n (-25567) 84005=true:=oK (by omega);clear h;go_enter func343,ntmps343;go_wp2_with (go_at_call 121;refine (bG _ _ _ _).mono ?_;rintro e w' ⟨rfl,rfl⟩);refine bodyPost_ret (v:=.agg #[al am 0,al am 0,an ⟨#[]⟩,ao none 0 0]) (by simp[results,results343,go_sem]) rfl ⟨rfl,by first | exact (Below.refl _ _).alloc (ar _) _ | exact (((Below.refl _ _).alloc (ar _) _).setCell (ar _) _)⟩
def dk (y m d:Int):Int:=if Cal.kK y m d=true then 6 else 0
def dn (y m d:Int):Int:=if Cal.kK y m d=true then Cal.num y m d else 0
theorem Bv {y m d:Int} (h:aW y 1800 2300=true\/aW m 1 12=true\/aW d 1 (Cal.Nb y m)=true):Cal.kK y m d=false:=by
 rw[bl];intro e;rw[Cal.sH] at e;simp only[aW,Bool.or_eq_true,decide_eq_true_eq] at h;omega
theorem Yx (y m d:Int) (w:World) :
  CS 339 #[al am y,al am m,al am d] w (.agg #[al am (dk y m d),al am (dn y m d),an ⟨#[]⟩,ao none 0 0]):=by
 have a:Cal.kK y m d=false->dk y m d=0/\dn y m d=0:=λ h=>by simp[dk,dn,h]
 by_cases e1:aW y 1800 2300=true
 .obtain⟨c,f⟩:=a (Bv (.inl e1));rw[c,f];clear c f a;go_enter func339,ntmps339;go_wp2_with (go_at_call 121;refine (bG _ _ _ _).mono ?_;rintro e w' ⟨rfl,rfl⟩);refine bodyPost_ret (v:=.agg #[al am 0,al am 0,an ⟨#[]⟩,ao none 0 0]) (by simp[results,results339,go_sem]) rfl ⟨rfl,by first | exact (Below.refl _ _).alloc (ar _) _ | exact (((Below.refl _ _).alloc (ar _) _).setCell (ar _) _)⟩
 have q:aW y 1800 2300=false:=by simpa using e1
 clear e1;by_cases e2:aW m 1 12=true
 .obtain⟨c,f⟩:=a (Bv (.inr (.inl e2)));rw[c,f];clear c f a;go_enter func339,ntmps339;go_wp2_with (go_at_call 121;refine (bG _ _ _ _).mono ?_;rintro e w' ⟨rfl,rfl⟩);refine bodyPost_ret (v:=.agg #[al am 0,al am 0,an ⟨#[]⟩,ao none 0 0]) (by simp[results,results339,go_sem]) rfl ⟨rfl,by first | exact (Below.refl _ _).alloc (ar _) _ | exact (((Below.refl _ _).alloc (ar _) _).setCell (ar _) _)⟩
 have n:aW m 1 12=false:=by simpa using e2
 clear e2;have B:1800<=y/\y<=2300:=by simp only[aW,a8,decide_eq_false_iff_not] at q;omega
 have A:1<=m/\m<=12:=by simp only[aW,a8,decide_eq_false_iff_not] at n;omega
 obtain⟨E,F⟩:=B;obtain⟨s,t⟩:=A;by_cases e3:aW d 1 (Cal.Nb y m)=true
 .obtain⟨c,f⟩:=a (Bv (.inr (.inr e3)));rw[c,f];clear c f a;go_enter func339,ntmps339;go_wp2_with (first | (go_at_call 121;refine (bG _ _ _ _).mono ?_;rintro e w' ⟨rfl,rfl⟩) | (go_at_call 301;refine (tK _ _ _ (by omega) (by omega)).mono ?_;rintro e w' ⟨rfl,rfl⟩));refine bodyPost_ret (v:=.agg #[al am 0,al am 0,an ⟨#[]⟩,ao none 0 0]) (by simp[results,results339,go_sem]) rfl ⟨rfl,by first | exact (Below.refl _ _).alloc (ar _) _ | exact (((Below.refl _ _).alloc (ar _) _).setCell (ar _) _)⟩
 have l:aW d 1 (Cal.Nb y m)=false:=by simpa using e3
 clear e3;have D:1<=d/\d<=Cal.Nb y m:=by simp only[aW,a8,decide_eq_false_iff_not] at l;omega
 have o:=Cal.Eu y m;obtain⟨r,u⟩:=D;have G:d<=40:=by omega
 have i:=Cal.UG s t r u;have g:Cal.kK y m d=decide (1900<=y/\y<=2199):=by
  rw[Bool.eq_iff_iff,Cal.sH];simp only[decide_eq_true_eq];constructor
  .exact λ h=>h.1
  .exact λ h=>⟨h,⟨s,t⟩,r,u⟩
 clear o a;by_cases hr:1900<=y/\y<=2199
 .have c:dk y m d=6:=by simp[dk,g,hr]
  have f:dn y m d=Cal.num y m d:=by simp[dn,g,hr]
  obtain⟨k,C⟩:=i.2 hr;rw[c,f];clear c f g i hr;go_enter func339,ntmps339;go_wp2_with (first | (go_at_call 121;refine (bG _ _ _ _).mono ?_;rintro e w' ⟨rfl,rfl⟩) | (go_at_call 301;refine (tK _ _ _ (by omega) (by omega)).mono ?_;rintro e w' ⟨rfl,rfl⟩) | (go_at_call 275;refine (mP _ _ _ _ (by omega) (by omega) (by omega) (by omega) (by omega) (by omega)).mono ?_;rintro e w' ⟨rfl,rfl⟩));refine (NS _ _ k C).mono ?_;rintro e w1 ⟨rfl,b⟩;obtain⟨p,x⟩:=aea b;have z:w.heap.size+1<=w1.heap.size:=by have:=b.size;simpa using this
  have j:DD w w1:=((Below.refl _ _).alloc (ar _) _).trans (b.mono (by simp));go_wp2;refine bodyPost_ret (v:=.agg #[al am 6,al am (Cal.num y m d),an ⟨#[]⟩,ao none 0 0]) (by simp[results,results339,go_sem,p]) rfl ⟨rfl,by repeat' (first | exact j | exact ar _ | apply Below.setCell)⟩
 .have c:dk y m d=0:=by simp[dk,g,hr]
  have f:dn y m d=0:=by simp[dn,g,hr]
  have k:Cal.num y m d < -25567\/84005<Cal.num y m d:=by
   have:=mt i.1 hr;omega
  rw[c,f];clear c f g i hr;have R1:=qh k;clear k;go_enter func339,ntmps339;go_wp2_with (first | (go_at_call 121;refine (bG _ _ _ _).mono ?_;rintro e w' ⟨rfl,rfl⟩) | (go_at_call 301;refine (tK _ _ _ (by omega) (by omega)).mono ?_;rintro e w' ⟨rfl,rfl⟩) | (go_at_call 275;refine (mP _ _ _ _ (by omega) (by omega) (by omega) (by omega) (by omega) (by omega)).mono ?_;rintro e w' ⟨rfl,rfl⟩));refine (JU _ _ R1.o).mono ?_;rintro e w1 ⟨rfl,b⟩;obtain⟨p,x⟩:=aea b;have z:w.heap.size+1<=w1.heap.size:=by have:=b.size;simpa using this
  have j:DD w w1:=((Below.refl _ _).alloc (ar _) _).trans (b.mono (by simp));go_wp2;refine bodyPost_ret (v:=.agg #[al am 0,al am 0,an ⟨#[]⟩,ao none 0 0]) (by simp[results,results339,go_sem,p]) rfl ⟨rfl,by repeat' (first | exact j | exact ar _ | apply Below.setCell)⟩
end Go.Proofs.YtcnagconagpkcaaGreatDoor
