/- Lemmas. -/
import Derived.Test.YtcnagconagpkcaaGreatDoorZ23
import Derived.Test.YtcnagconagpkcaaGreatDoorZ24
import Derived.Shelf.SlSortCmp.NoneTotal
open Go.Value renaming int->am, string->ao, slice->ap, bool->aq
open Go.IntKind renaming i64->an
open Go.Ending renaming returned->av
open Nat renaming le_trans->aw, zero_le->ay, mod_two_eq_zero_or_one->aZ, zero_add->a4
open Bool renaming and_eq_true->ax, true_and->aL
open Array renaming all_toList->aA, getElem?_modify->a8, extract_size->ba
open List renaming all_eq_true->aD, drop_length->aE, lt_irrefl->aM, getElem?_take_of_lt->aR, length_map->bb, take_succ_eq_append_getElem->bc, take_of_length_le->bd, getElem_mem->be, drop_eq_getElem_cons->bf, drop_eq_nil_of_le->bg
namespace Go.Proofs.YtcnagconagpkcaaGreatDoor
open Go.RowKit
attribute [local go_sem ↓] Go.wp_at_zero Go.wp_at_succ
set_option maxHeartbeats 4000000
set_option maxRecDepth 100000
def KD:={p:jE // 1<=p.1/\p.1<=9}
instance:Inhabited KD:=⟨⟨(1,⟨#[]⟩),by decide,by decide⟩⟩
def ain (p:KD):List Value:=[am an p.1.1,ao p.1.2]
def cfD (p q:KD):Int:=if p.1.1≠q.1.1 then p.1.1 - q.1.1 else if p.1.2.data.toList<q.1.2.data.toList then -1 else if q.1.2.data.toList<p.1.2.data.toList then 1 else 0
theorem aai (p q:KD) (w:World):Calls Tryz.prog 48 #[.agg (ain p).toArray,.agg (ain q).toArray] w λ e w'=>e = av (am an (cfD p q))/\∃ n os',w'=Go.Sort.grow (w.drewN n) os':=by
 obtain⟨⟨k,s⟩,d,b⟩:=p;obtain⟨⟨m,t⟩,a,f⟩:=q;show Calls Tryz.prog 48 #[.agg #[am an k,ao s],.agg #[am an m,ao t]] w _;dsimp only at d b a f;have i:cfD ⟨(k,s),d,b⟩ ⟨(m,t),a,f⟩=if k≠m then k - m else if s.data.toList<t.data.toList then -1 else if t.data.toList<s.data.toList then 1 else 0:=rfl
 rw[i];obtain⟨R,h⟩:=af ((if k≠m then k - m else if s.data.toList<t.data.toList then -1 else if t.data.toList<s.data.toList then 1 else 0));rw[h];clear i;have j:=qh h;have r:IntKind.i64.wrap (k - m)=k - m:=IntWalk.i64_in _ (by omega);clear h;by_cases hk:k=m
 case neg =>
  have g:(k != m)=true:=by simp[hk]
  have c:=qh (show R=k - m from j.o.symm.trans (if_pos hk));clear hk;go_enter Tryz.func48,Tryz.ntmps48;go_wp2_with fail;go_ret;exact⟨ai c.o.symm,0,_,by rw[Go.Sort.alloc_eq_grow,Go.Sort.alloc_eq_grow,Go.Sort.grow_grow];rfl⟩
 have g:(k != m)=false:=by simp[hk]
 have c:=qh (j.o.symm.trans (if_neg (λ q=>q hk)));have c:=qh (show R=if Op.bytesLess s.toList t.toList=true then -1 else if (Op.bytesLess s.toList t.toList || s.toList == t.toList)=true then 0 else 1 by
  rw[c.o,ByteArray.toList_eq,ByteArray.toList_eq,bytesLess_eq];by_cases d:s.data.toList<t.data.toList
  .simp[d]
  .by_cases b:t.data.toList<s.data.toList
   .have a:¬ s.data.toList=t.data.toList:=λ e=>by rw[e] at b;exact aM _ b
    have f:¬ s.data=t.data:=λ e=>a (by rw[e]);simp[d,b,a,f]
   .have a:s.data.toList=t.data.toList:=List.le_antisymm b d;simp[a,aM])
 clear hk r;obtain⟨l,e0⟩:=af (Op.bytesLess s.toList t.toList);obtain⟨o,e1⟩:=af ((s.toList == t.toList));rw[e0,e1] at c;cases l;cases o
 all_goals
  go_enter Tryz.func48,Tryz.ntmps48;go_wp2_with fail;go_ret;exact⟨ai (by rw[c.o];rfl),0,_,by rw[Go.Sort.alloc_eq_grow,Go.Sort.alloc_eq_grow,Go.Sort.grow_grow];rfl⟩
theorem aaj (p q:KD):ltOf cfD p q=true ↔ ltD p.1 q.1:=by
  unfold ltOf cfD ltD;rw[decide_eq_true_eq];by_cases hk:p.1.1=q.1.1
  .rw[if_neg (λ h=>h hk)];by_cases h1:p.1.2.data.toList<q.1.2.data.toList
   .rw[if_pos h1];exact⟨λ _=>.inr ⟨hk,h1⟩,λ _=>by decide⟩
   .rw[if_neg h1];refine⟨λ h=>absurd h (by split <;> decide),λ h=>?_⟩;rcases h with h | h
    .omega
    .exact absurd h.2 h1
  .rw[if_pos hk];exact⟨λ h=>.inl (by omega),λ h=>h.elim (λ h=>by omega) (λ h=>absurd h.1 hk)⟩
theorem swoD:Go.Sort.SWO (ltOf cfD):=by
 have b:=aaj;have e:∀ p q:KD,ltOf cfD p q=false ↔ ¬ ltD p.1 q.1:=λ p q=>by rw[<- b];simp
 refine⟨λ p=>(e p p).2 (λ h=>ae5 h rfl),λ p q r d c=>(b p r).2 (Jo ((b p q).1 d) ((b q r).1 c)),λ p q r d c=>(e p r).2 λ h=>?_⟩;have d:=(e p q).1 d;have c:=(e q r).1 c;rcases TI p.1 q.1 with a | a | a
 .exact d a
 .rw[a] at h;exact c h
 .exact c (Jo a h)
set_option maxHeartbeats 4000000
set_option maxRecDepth 100000
def zk (w:World) (g:Nat) (d:List jE):Prop:=∃ cur,ag w g 131 cur/\∀ j (h:j<d.length),cur[j*2]?=some (am an d[j].1)/\cur[j*2+1]?=some (ao d[j].2)
theorem O6:∀ {l:List jE} {j:Nat} (h:j<l.length),(O3 l)[j*2]?=some (am an l[j].1)/\(O3 l)[j*2+1]?=some (ao l[j].2)
 | a :: r,0,_=>⟨rfl,rfl⟩
 | a :: r,j+1,h=>by
  have b:=O6 (l:=r) (j:=j) (by simpa using h);rw[show (j+1)*2=j*2+1+1 by omega];exact b
theorem zk.fM {w:World} {B n c g:Nat} {l:List jE} (h:w.ownsRow B 131 2 (ap (some ⟨g,0,none⟩) n c) n (O3 l)) (o:n=l.length):zk w g l/\n<=c/\g<w.heap.size:=by
 rcases h.2 with ⟨e,-⟩ | ⟨m,f,cur,e,-,a,i,-,-,d⟩
 .cases e
 .injection e with e1 e2 e3;injection e1 with e1;injection e1 with e1;subst e1 e3;have a:ag w g 131 cur:=a;refine⟨⟨cur,a,λ j k=>?_⟩,i,a.lt⟩;have b:=O6 k;rw[<- d,aR (by omega),aR (by omega)] at b;simpa using b
theorem zk.at_ {w:World} {g:Nat} {d:List jE} (h:zk w g d) {j:Nat} (c:j<d.length):w.cell? ⟨g,j*2,none⟩=some (am an d[j].1)/\w.cell? ⟨g,j*2+1,none⟩=some (ao d[j].2)/\w.frozen? ⟨g,j*2,none⟩=false/\w.frozen? ⟨g,j*2+1,none⟩=false:=by
 obtain⟨e,a,b⟩:=h;exact⟨(a.cell _).trans (b j c).1,(a.cell _).trans (b j c).2,a.frozen _,a.frozen _⟩
def enc2 {α:Type} (e0 e1:α->Value) (p:α):List Value:=[e0 p,e1 p]
def V4 {α:Type} (T:TypeId) (e0 e1:α->Value) (w:World) (g:Nat) (d:List α):Prop:=∃ cur,ag w g T cur/\∀ j (h:j<d.length),cur[j*2]?=some (e0 d[j])/\cur[j*2+1]?=some (e1 d[j])
section
variable {α:Type} [Inhabited α] {T:TypeId} {e0 e1:α->Value} {w:World} {g:Nat} {F:List α}
theorem aio {j:Nat} (b:j<F.length*2):(Go.Sort.flatK (enc2 e0 e1) 2 F.toArray)[j]! = if j % 2=0 then e0 (F[j / 2]'(by omega)) else e1 (F[j / 2]'(by omega)):=by
 rw[Go.Sort.get_flatK _ _ _ _ (by simpa using b)];have a:F.toArray[j / 2]! = F[j / 2]'(by omega):=by
  rw[getElem!_pos F.toArray (j / 2) (by simp;omega)];simp
 rw[a];rcases aZ j with h | h <;> rw[h] <;> rfl
theorem V4.holds (h:V4 T e0 e1 w g F):Go.Sort.HoldsK (enc2 e0 e1) 2 w g 0 F.toArray:=by
 obtain⟨e,d,f⟩:=h;intro j i;have a:j<F.length*2:=by simpa using i
 obtain⟨b,c⟩:=f (j / 2) (by omega);rw[a4];show w.cell? ⟨g,j,none⟩=some (Go.Sort.flatK (enc2 e0 e1) 2 F.toArray)[j]!/\_;rw[aio a,d.cell];refine⟨?_,d.frozen _⟩;rcases aZ j with q | q
 .rw[if_pos q];rw[show j / 2*2=j by omega] at b;exact b
 .rw[if_neg (by omega)];rw[show j / 2*2+1=j by omega] at c;exact c
end
theorem Rx {w:World} {g n:Nat} {os:Array Obj} {a:Array Value} {e:TypeId} {α:Type} [Inhabited α] {enc:α->List Value} {k:Nat} (d:Array α) (b:ag w g e a):∃ cur',ag (sortWorldK enc k w g 0 n d os) g e cur':=by
 have c:=b.lt;have b:w.heap[g]?=some (.cells a e (0,0)):=b;refine⟨_,show (Go.Sort.grow (Go.Sort.putRow id (Go.Sort.ahead w n) g 0 (Go.Sort.flatK enc k d)) os).heap[g]?=some (.cells (Go.Sort.putCells id 0 (Go.Sort.flatK enc k d) a) e (0,0)) from ?_⟩;rw[Go.Sort.heap_grow_old _ _ (by simpa using c)];simp[Go.Sort.putRow,Go.Sort.mapBlock,Go.Sort.ahead,a8,b,Go.Sort.onCells]
theorem Iq {w:World} {g n:Nat} {os:Array Obj} {α:Type} [Inhabited α] {enc:α->List Value} {k:Nat} (d:Array α):w.grownBy (sortWorldK enc k w g 0 n d os) (some g):=by
 refine⟨rfl,rfl,rfl,by simp[sortWorldK,Go.Sort.putRowK],λ j b a=>?_⟩;show (Go.Sort.grow (Go.Sort.putRow id (Go.Sort.ahead w n) g 0 (Go.Sort.flatK enc k d)) os).heap[j]?=_;rw[Go.Sort.heap_grow_old _ _ (by simpa using b)];have:g≠j:=λ e=>a (by rw[e]);simp[Go.Sort.putRow,Go.Sort.mapBlock,Go.Sort.ahead,a8,this]
theorem acH {α:Type} [Inhabited α] {d d':Array α} (h:Go.Sort.PermIn 0 d.size d d'):d'.toList.Perm d.toList:=by
 obtain⟨a,-,b⟩:=h;have e1:d'.extract 0 d.size=d':=by rw[<- a,ba]
 rwa [e1,ba] at b
theorem aip {α:Type} [Inhabited α] {c:α->α->Bool} {d:Array α} (h:Go.Sort.SortedIn c 0 d.size d):d.toList.Pairwise (λ x y=>c y x=false):=by
 rw[List.pairwise_iff_getElem];intro i j e b a;have:=h i j (ay _) a (by simpa using b)
 rwa [getElem!_pos d i (by simpa using e),getElem!_pos d j (by simpa using b)] at this
section
open Go.Shelf
theorem Jq {α:Type} [Inhabited α] {ρ:Ren} (L:SlLaysF0.n6 Tryz.prog ρ) {e0 e1:α->Value} (H:∀ w,(isAgg (ρ.t 24)).run Tryz.prog w = .ok true w) (I:∀ w,(Go.sizeOf (ρ.t 24)).run Tryz.prog w = .ok 2 w) (G:∀ x,(e0 x).oneCell'=true) (r:∀ x,(e1 x).oneCell'=true)
  {cf:α->α->Int} (J:Go.Sort.SWO (ltOf cf)) {k:FuncId} (K:∀ args w,(callFunc k args).run Tryz.prog w = .ok (.enter k args) w) (i:∀ x y w,Calls Tryz.prog k #[.agg (enc2 e0 e1 x).toArray,.agg (enc2 e0 e1 y).toArray] w λ e w'=>e = av (am an (cf x y))/\∃ n q,w'=Go.Sort.grow (w.drewN n) q)
  {w:World} {g c:Nat} {F:List α} (z:V4 (ρ.t 24) e0 e1 w g F) (M:F.length<=100000) :
  Calls Tryz.prog (ρ.f 6) #[ap (some ⟨g,0,none⟩) F.length c,.func (.func k) #[] #[]] w λ e w'=>e = av (.tuple #[])/\w.grownBy w' (some g)/\∃ m,V4 (ρ.t 24) e0 e1 w' g m/\m.Perm F/\m.Pairwise (λ x y=>ltOf cf y x=false):=by
 have A:=z.holds;obtain⟨t,d,-⟩:=z;have D:=d.lt;have h:=AnyQ.slices_SortFunc L 2 H I (enc2 e0 e1) (λ _=>rfl) (λ x v s=>by simp[enc2] at s;rcases s with rfl | rfl <;> first | exact G x | exact r x) cf J k #[] g 0 c F.toArray w K (λ _ _ _ _ x y=>i x y _) A D (by simp;omega);rw[show F.toArray.size=F.length by simp] at h;refine h.mono λ e w' ⟨r,d',n,os,l,B,p⟩=>⟨r,by rw[p];exact Iq d',d'.toList,?_,?_,?_⟩
 .have f:Go.Sort.HoldsK (enc2 e0 e1) 2 w' g 0 d':=by rw[p];exact holdsK_sortWorldK_c (enc2 e0 e1) 2 w g 0 F.toArray d' n os A D (l.1.trans (by simp))
  obtain⟨o,a⟩:=Rx (enc:=enc2 e0 e1) (k:=2) (n:=n) (os:=os) d' d;rw[<- p] at a;refine⟨o,a,λ j E=>?_⟩;have b:j<d'.size:=by simpa using E
  have u:=(f.cell b (show 0<2 by decide)).1;have C:=(f.cell b (show 1<2 by decide)).1;rw[getElem!_pos d' j b,a4,a.cell] at u C;exact⟨u,C⟩
 .have e:F.length=F.toArray.size:=by simp
  rw[e] at l;exact acH l
 .rw[show F.length=d'.size from (l.1.trans (by simp)).symm] at B;exact aip B
end
theorem TN:∀ (l:List jE),(∀ p∈l,1<=p.1/\p.1<=9)->∃ F:List KD,F.map (·.1)=l
 | [],_=>⟨[],rfl⟩
 | a :: r,h=>by
  obtain⟨F,e⟩:=TN r (λ p q=>h p (List.mem_cons_of_mem _ q));exact⟨⟨a,h a (List.mem_cons_self ..)⟩ :: F,congrArg (List.cons a) e⟩
theorem ae8 (w:World):(isAgg 131).run Tryz.prog w = .ok true w:=by kernel_rfl
theorem aiq (w:World):(Go.sizeOf 131).run Tryz.prog w = .ok 2 w:=by kernel_rfl
theorem amb:∀ args w,(callFunc 48 args).run Tryz.prog w = .ok (.enter 48 args) w:=enters_of Tryz.func48 (by kernel_rfl) rfl
theorem V5 {w:World} {B c:Nat} {A:Option Addr} {l:List jE} (D:w.ownsRow B 131 2 (ap A l.length c) l.length (O3 l)) (G:∀ p∈l,1<=p.1/\p.1<=9) (Q:l.length<=100000) :
  Calls Tryz.prog 47 #[ap A l.length c,.func (.func 48) #[] #[]] w λ e w'=>e = av (.tuple #[])/\((A=none/\l = []/\w'=w)\/∃ g s,A=some ⟨g,0,none⟩/\B<=g/\g<w.heap.size/\l.length<=c/\w.grownBy w' (some g)/\zk w' g s/\s.Perm l/\s.Pairwise (λ p q=>¬ ltD q p)):=by
 rcases D.2 with ⟨e,e0⟩ | ⟨g,K,J,e,N,-⟩
 .injection e with e1 e2 e3;subst e1 e3;have v:l = []:=List.eq_nil_of_length_eq_zero e2;subst v;exact (AnyF.slices_SortFunc_none Tryz.TK none 0 (.func (.func 48) #[] #[]) w).mono λ e w' ⟨u,P⟩=>⟨u,.inl ⟨rfl,rfl,P⟩⟩
 .injection e with e1 e2 e3;subst e1 e3;obtain⟨⟨d,o,i⟩,E,O⟩:=zk.fM D rfl;obtain⟨F,hF⟩:=TN l G;have f:F.length=l.length:=by rw[<- hF,bb]
  have L:V4 131 (λ p:KD=>.int an p.1.1) (λ p:KD=>.string p.1.2) w g F:=⟨d,o,λ j m=>by have:=i j (by omega);subst hF;simpa using this⟩;have h:=Jq (k:=48) (cf:=cfD) Tryz.TK ae8 aiq (λ _=>rfl) (λ _=>rfl) swoD amb (λ x y w=>aai x y w) L (by omega) (c:=c);rw[f] at h;refine h.mono λ e w' ⟨u,z,H,⟨r,n,t⟩,I,M⟩=>⟨u,.inr ⟨g,H.map (·.1),rfl,N,O,E,z,⟨r,n,λ j m=>?_⟩,?_,?_⟩⟩
  .rw[bb] at m;rw[List.getElem_map];exact t j m
  .have:=I.map (·.1)
   rwa [hF] at this
  .rw[List.pairwise_map];refine M.imp λ {a b} q C=>?_;have:ltOf cfD b a=true:=(aaj b a).2 C;rw[q] at this;cases this
end Go.Proofs.YtcnagconagpkcaaGreatDoor
namespace Go.Proofs.YtcnagconagpkcaaGreatDoor
open Go.RowKit
attribute [local go_sem ↓] Go.wp_at_zero Go.wp_at_succ
attribute [local go_sem ↓] ld_item st_item ld_node st_node ld_ans st_ans ld_part st_part ld_rule st_rule ld_form st_form
attribute [local go_sem ↓] ld_ex st_ex ld_opt st_opt
set_option maxHeartbeats 4000000
set_option maxRecDepth 100000
theorem aak {a b:List ByteArray} {k:Nat} (c:k<a.length) (d:k<b.length) (h:a[k]≠b[k]):decide (a=b)=false:=by
 rw[decide_eq_false_iff_not];rintro rfl;exact h rfl
theorem aal {a b:List ByteArray} {k:Nat} (d:k<a.length) (e:k<b.length) (h:a[k]=b[k]) (c:a.take k=b.take k):a.take (k+1)=b.take (k+1):=by
 rw[bc d,bc e,h,c]
theorem V6 {a b:List ByteArray} {k:Nat} (d:a.length<=k) (e:b.length=a.length) (c:a.take k=b.take k):decide (a=b)=true:=by
 rw[bd d,bd (by omega)] at c;simpa using c
theorem qR (A B:Option Addr) (n c m d B1 B2:Nat) (a f:List ByteArray) (w:World) (G:n<=maxLen) (L:m<=maxLen)
  (j:Reads w B1 1 A n (iZ a)) (o:Reads w B2 1 B m (iZ f)) (q:B1<=w.heap.size) (l:B2<=w.heap.size) :
  CS 141 #[ap A n c,ap B m d] w (aq (decide (a=f))):=by
 have s:=j.more q;have x:=o.more l;clear j o q l;have r:n=a.length:=by have:=s.1;rw[zx] at this;omega
 have t:m=f.length:=by have:=x.1;rw[zx] at this;omega
 subst r t;unfold maxLen at G L;by_cases hl:a.length=f.length
 .have p:((a.length:Int) != (f.length:Int))=false:=by simp[hl]
  have M:a.length<=f.length:=by omega
  have J:f.length<=a.length:=by omega
  clear hl;go_enter Tryz.func141,Tryz.ntmps141;go_wp2;go_loopw [13,5] (λ i _ wr=>∃ k:Nat,k<=a.length/\i = am an k/\EG w wr/\a.take k=f.take k) (λ i _ _=>a.length - (intOf i).toNat)
  case atStart=>exact⟨0,ay _,rfl,Below.refl _ _,rfl⟩
  case round =>
   obtain⟨k,K,rfl,h,D⟩:=hrel;have F:=qh D;clear D p;by_cases h1:k<a.length
   .have z:k<f.length:=by omega
    obtain⟨O,u,rfl,_,E,I⟩:=(s.below h).at_ h1;obtain⟨N,v,rfl,_,C,H⟩:=(x.below h).at_ z;obtain⟨_,rfl⟩:=ED E;obtain⟨_,rfl⟩:=ED C;clear E C s x;by_cases hz:a[k]=f[k]
    .have g:=qh (aal h1 z hz F.o);have b:(a[k].toList == f[k].toList)=true:=kz hz;have y:=qh b;clear hz b;go_wp2;have b:=y.o;go_quiet (fail);go_wp2;go_roundw
     case rel=>exact⟨k+1,by omega,by go_num,h.drewN _,g.o⟩
     case measure=>simp[intOf];omega
    .have g:=qh (aak h1 z hz);have b:(a[k].toList == f[k].toList)=false:=dR hz;have y:=qh b;clear hz b;go_wp2;have b:=y.o;go_quiet (fail);go_wp2;go_ret;exact⟨aj (by rw[g.o]),h.drewN _⟩
   .have g:=qh (V6 (by omega) (by omega) F.o);go_wp2;go_ret;exact⟨aj (by rw[g.o]),h⟩
 .have p:((a.length:Int) != (f.length:Int))=true:=by simp;omega
  have g:=qh (show decide (a=f)=false by rw[decide_eq_false_iff_not];rintro rfl;exact hl rfl);clear hl;go_enter Tryz.func141,Tryz.ntmps141;go_wp2;go_ret;exact⟨aj (by rw[g.o]),Below.refl _ _⟩
def adr (e:Ex):Prop:=∀ (y:Ex) (C1 C2:Nat) (cs ds:List Value) (w:World),aQ w C1 e cs->aQ w C2 y ds->C1<=w.heap.size->C2<=w.heap.size->CS 190 #[.agg cs.toArray,.agg ds.toArray] w (aq (bI e y))
theorem GN {l a:List Ex} {A A':Option Addr} {c c' e b:Nat} {w:World} (i:∀ x∈l,adr x) (h:au aQ 8 w e A l) (g:au aQ 8 w b A' a) (f:e<=w.heap.size) (d:b<=w.heap.size) :
  CS 137 #[ap A l.length c,ap A' a.length c'] w (aq (bI l a)):=by
 have o:=qh (CU l a▸VZ (c:=c) (c':=c') h g f d (λ x k y cs ds w' p r m n=>i x k y e b cs ds w' p r m n));clear h g i;go_enter Tryz.func137,Tryz.ntmps137;go_wp2_with (go_at_call 189;(with_reducible refine o.o.mono ?_);rintro _ s ⟨rfl,j⟩);go_ret;exact⟨rfl,j⟩
theorem aam (e y:Ex):bI e y=(bI e.k y.k && bI e.op y.op && bI e.nm y.nm && bI e.v y.v && bI e.ar y.ar):=by
 cases e;cases y;refine dE ?_;simp only[Ex.mk.injEq,ax,dD,and_assoc,Ex.k,Ex.op,Ex.nm,Ex.v,Ex.ar]
theorem GR (e:Ex):adr e:=by
 induction e using Ex.ind with
 | h e ih =>
 intro y C1 C2 cs ds w k l f g;obtain⟨ac,aa,E,G,k,B,x⟩:=k;rename_i s m n u z;obtain⟨ae,ad,J,F,l,D,v⟩:=l;rename_i r p o t H;have ha:au aQ 8 w C1 n e.ar:=⟨G,z,B,x⟩;have C:au aQ 8 w C2 o y.ar:=⟨F,H,D,v⟩;show Calls Tryz.prog 190 #[.agg (BC e s m n e.ar.length u),.agg (BC y r p o y.ar.length t)] w _;obtain⟨W,O,b,j,i,ab⟩:=Ro w 67 67 (BC e s m n e.ar.length u) (BC y r p o y.ar.length t);have A:=qh (show ∀ a,EG W a->a.cell? ⟨w.heap.size,0,none⟩=some (am an e.k)/\a.cell? ⟨w.heap.size,1,none⟩=some (am an e.op)/\a.cell? ⟨w.heap.size,2,none⟩=some (ao e.nm)/\a.cell? ⟨w.heap.size,3,none⟩=some (am an e.v.k)/\a.cell? ⟨w.heap.size,4,none⟩=some (am an e.v.n)/\a.cell? ⟨w.heap.size,5,none⟩=some (ao e.v.s)/\a.cell? ⟨w.heap.size,6,none⟩=some (ap s e.v.l.length m)/\a.cell? ⟨w.heap.size,7,none⟩=some (ap n e.ar.length u)/\a.cell? ⟨w.heap.size+1,0,none⟩=some (am an y.k)/\a.cell? ⟨w.heap.size+1,1,none⟩=some (am an y.op)/\a.cell? ⟨w.heap.size+1,2,none⟩=some (ao y.nm)/\a.cell? ⟨w.heap.size+1,3,none⟩=some (am an y.v.k)/\a.cell? ⟨w.heap.size+1,4,none⟩=some (am an y.v.n)/\a.cell? ⟨w.heap.size+1,5,none⟩=some (ao y.v.s)/\a.cell? ⟨w.heap.size+1,6,none⟩=some (ap r y.v.l.length p)/\a.cell? ⟨w.heap.size+1,7,none⟩=some (ap o y.ar.length t) from λ a c=>by
  have j:=j.below c j.lt;have i:=i.below c i.lt;exact⟨j.cell 0,j.cell 1,j.cell 2,j.cell 3,j.cell 4,j.cell 5,j.cell 6,j.cell 7,i.cell 0,i.cell 1,i.cell 2,i.cell 3,i.cell 4,i.cell 5,i.cell 6,i.cell 7⟩)
 have d:=qh (Below.refl W.heap.size W);have T:=qh b;obtain⟨a0,a1,a2,Q,S,X,a6,M,Z,b1,b2,b3,Y,R,P,U⟩:=A.o _ d.o;obtain⟨g0,e0⟩:=af ((e.k == y.k));obtain⟨V,e1⟩:=af ((e.op == y.op));obtain⟨g2,e2⟩:=af ((e.nm.toList == y.nm.toList));obtain⟨K,e3⟩:=af (bI e.v y.v);have K3:=qh (show ∀ a,EG W a->Calls Tryz.prog 224 #[.agg #[am an e.v.k,am an e.v.n,ao e.v.s,ap s e.v.l.length m],.agg #[am an y.v.k,am an y.v.n,ao y.v.s,ap r y.v.l.length p]] a λ L w'=>L = av (aq K)/\EG a w' from λ a c=>e3▸O1 e.v y.v s r m p C1 C2 a E J (k.below ((b.trans (c.mono b.size)).mono f)) (l.below ((b.trans (c.mono b.size)).mono g)) (aw f (b.trans (c.mono b.size)).size) (aw g (b.trans (c.mono b.size)).size));obtain⟨N,I⟩:=af (bI e.ar y.ar);have K4:=qh (show ∀ a,EG W a->Calls Tryz.prog 137 #[ap n e.ar.length u,ap o y.ar.length t] a λ L w'=>L = av (aq N)/\EG a w' from λ a c=>I▸GN ih (ha.keep (λ _ _ h=>h.keep ((b.trans (c.mono b.size)).mono f)) ((b.trans (c.mono b.size)).mono f)) (C.keep (λ _ _ h=>h.keep ((b.trans (c.mono b.size)).mono g)) ((b.trans (c.mono b.size)).mono g)) (aw f (b.trans (c.mono b.size)).size) (aw g (b.trans (c.mono b.size)).size));have HR:=qh (show bI e y=(g0 && V && g2 && K && N) from by rw[aam,<- dQ,<- dQ,<- lu,e0,e1,e2,e3,I]);clear e3;clear I;go_enter Tryz.func190,Tryz.ntmps190;go_upto_region 1 with (fail);rw[<- O];clear O;cases g0;rotate_left;cases V;rotate_left;cases g2;rotate_left;cases K;rotate_left
 all_goals
  go_wp2_with (first | (go_at_call 224;(with_reducible refine (K3.o _ d.o).mono ?_);rintro _ wq ⟨rfl,q⟩;have d:=qh (d.o.trans (q.mono d.o.size));obtain⟨a0,a1,a2,Q,S,X,a6,M,Z,b1,b2,b3,Y,R,P,U⟩:=A.o _ d.o;clear q) | (go_at_call 137;(with_reducible refine (K4.o _ d.o).mono ?_);rintro _ wq ⟨rfl,q⟩;have d:=qh (d.o.trans (q.mono d.o.size));obtain⟨a0,a1,a2,Q,S,X,a6,M,Z,b1,b2,b3,Y,R,P,U⟩:=A.o _ d.o;clear q));go_ret;exact⟨aj (by rw[HR.o];first | rfl | simp),T.o.trans (d.o.mono T.o.size)⟩
theorem qU {l b:List Ex} {A A':Option Addr} {c c' e f:Nat} {w:World} (h:au aQ 8 w e A l) (g:au aQ 8 w f A' b) (d:e<=w.heap.size) (a:f<=w.heap.size) :
  CS 137 #[ap A l.length c,ap A' b.length c'] w (aq (bI l b)):=GN (λ x _=>GR x) h g d a
end Go.Proofs.YtcnagconagpkcaaGreatDoor
namespace Go.Proofs.YtcnagconagpkcaaGreatDoor
open Go.RowKit
attribute [local go_sem ↓] Go.wp_at_zero Go.wp_at_succ
attribute [local go_sem ↓] ld_item st_item ld_node st_node ld_ans st_ans ld_part st_part ld_rule st_rule ld_form st_form
attribute [local go_sem ↓] ld_opt st_opt
set_option maxHeartbeats 4000000
set_option maxRecDepth 100000
theorem TP (x y:qg):bI x y=(bI x.code y.code && bI x.al y.al && bI x.la y.la && decide (x.ph=y.ph)):=by
 cases x;cases y;refine dE ?_;simp only[qg.mk.injEq,ax,dD,decide_eq_true_eq];constructor
 .rintro ⟨c,d,a,b⟩;exact⟨⟨⟨c,a⟩,b⟩,d⟩
 .rintro ⟨⟨⟨c,d⟩,a⟩,b⟩;exact⟨c,b,d,a⟩
theorem O7 {x y:qg} {o m:Nat} {cs ds:List Value} {w:World} (h:nH w o x cs) (D:nH w m y ds) (k:o<=w.heap.size) (l:m<=w.heap.size) :
  CS 108 #[.agg cs.toArray,.agg ds.toArray] w (aq (bI x y)):=by
 obtain⟨A,c,rfl,r⟩:=h;obtain⟨B,d,rfl,j⟩:=D;show Calls Tryz.prog 108 #[.agg #[am an x.code,ap A x.ph.length c,aq x.al,aq x.la],.agg #[am an y.code,ap B y.ph.length d,aq y.al,aq y.la]] w _;obtain⟨W,C,b,i,f,L⟩:=Ro w 95 95 #[am an x.code,ap A x.ph.length c,aq x.al,aq x.la] #[am an y.code,ap B y.ph.length d,aq y.al,aq y.la];have u:=qh (show ∀ a,EG W a->a.cell? ⟨w.heap.size,0,none⟩=some (am an x.code)/\a.cell? ⟨w.heap.size,1,none⟩=some (ap A x.ph.length c)/\a.cell? ⟨w.heap.size,2,none⟩=some (aq x.al)/\a.cell? ⟨w.heap.size,3,none⟩=some (aq x.la)/\a.cell? ⟨w.heap.size+1,0,none⟩=some (am an y.code)/\a.cell? ⟨w.heap.size+1,1,none⟩=some (ap B y.ph.length d)/\a.cell? ⟨w.heap.size+1,2,none⟩=some (aq y.al)/\a.cell? ⟨w.heap.size+1,3,none⟩=some (aq y.la) from λ a g=>by
  have i:=i.below g i.lt;have f:=f.below g f.lt;exact⟨i.cell 0,i.cell 1,i.cell 2,i.cell 3,f.cell 0,f.cell 1,f.cell 2,f.cell 3⟩)
 have e:=qh (Below.refl W.heap.size W);have s:=qh b;obtain⟨K,M,J,F,E,b1,b2,b3⟩:=u.o _ e.o;obtain⟨q,e0⟩:=af ((x.code == y.code));obtain⟨t,e1⟩:=af ((x.al == y.al));obtain⟨z,H⟩:=af ((x.la == y.la));obtain⟨p,e3⟩:=af (decide (x.ph=y.ph));have G:=qh (show ∀ a,EG W a->Calls Tryz.prog 141 #[ap A x.ph.length c,ap B y.ph.length d] a λ n w'=>n = av (aq p)/\EG a w' from λ a g=>e3▸qR _ _ _ _ _ _ o m _ _ _ r.2.2.1 j.2.2.1 (r.1.below ((b.trans (g.mono b.size)).mono k)) (j.1.below ((b.trans (g.mono b.size)).mono l)) (aw k (b.trans (g.mono b.size)).size) (aw l (b.trans (g.mono b.size)).size));have I:=qh (show bI x y=(q && t && z && p) from by rw[TP,<- dQ,<- dQ,<- dQ,e0,e1,H,e3]);clear e3;go_enter Tryz.func108,Tryz.ntmps108;go_upto_region 1 with (fail);rw[<- C];clear C;cases q;rotate_left;cases t;rotate_left;cases z;rotate_left
 all_goals
  go_wp2_with (first | (go_at_call 141;(with_reducible refine (G.o _ e.o).mono ?_);rintro _ N ⟨rfl,v⟩;have e:=qh (e.o.trans (v.mono e.o.size));obtain⟨K,M,J,F,E,b1,b2,b3⟩:=u.o _ e.o;clear v));go_ret;exact⟨aj (by rw[I.o];first | rfl | simp),s.o.trans (e.o.mono s.o.size)⟩
def DF (r:gq):gq:={ r with ph:=[] }
noncomputable def xg (x y:gq):Bool:=bI (DF x) (DF y)
theorem aan (x y:gq):xg x y=(bI x.soft y.soft && bI x.must y.must):=by
 cases x;cases y;refine dE ?_;simp only[DF,gq.mk.injEq,ax,dD,and_true];exact and_comm
theorem Lh {x y:gq} {D u:Nat} {cs ds:List Value} {w:World} (h:iO w D x cs) (N:iO w u y ds) (j:D<=w.heap.size) (l:u<=w.heap.size) :
  CS 140 #[.agg cs.toArray,.agg ds.toArray] w (aq (xg x y)):=by
 obtain⟨es,A,c,rfl,E,hp⟩:=h;obtain⟨ab,B,d,rfl,k,O⟩:=N;have v:=qh E;have z:=qh k;cases E;rename_i s o n t _ _ _ _ _ _ _ _;cases k;rename_i m r p q _ _ _ _ _ _ _ _;show Calls Tryz.prog 140 #[.agg #[am an x.must.k,am an x.must.op,ao x.must.nm,am an x.must.v.k,am an x.must.v.n,ao x.must.v.s,ap s x.must.v.l.length o,ap n x.must.ar.length t,aq x.soft,ap A x.ph.length c],.agg #[am an y.must.k,am an y.must.op,ao y.must.nm,am an y.must.v.k,am an y.must.v.n,ao y.must.v.s,ap m y.must.v.l.length r,ap p y.must.ar.length q,aq y.soft,ap B y.ph.length d]] w _;obtain⟨W,K,b,f,e,aa⟩:=Ro w 144 144 #[am an x.must.k,am an x.must.op,ao x.must.nm,am an x.must.v.k,am an x.must.v.n,ao x.must.v.s,ap s x.must.v.l.length o,ap n x.must.ar.length t,aq x.soft,ap A x.ph.length c] #[am an y.must.k,am an y.must.op,ao y.must.nm,am an y.must.v.k,am an y.must.v.n,ao y.must.v.s,ap m y.must.v.l.length r,ap p y.must.ar.length q,aq y.soft,ap B y.ph.length d];have I:=qh (show ∀ a,EG W a->a.cell? ⟨w.heap.size,0,none⟩=some (am an x.must.k)/\a.cell? ⟨w.heap.size,1,none⟩=some (am an x.must.op)/\a.cell? ⟨w.heap.size,2,none⟩=some (ao x.must.nm)/\a.cell? ⟨w.heap.size,3,none⟩=some (am an x.must.v.k)/\a.cell? ⟨w.heap.size,4,none⟩=some (am an x.must.v.n)/\a.cell? ⟨w.heap.size,5,none⟩=some (ao x.must.v.s)/\a.cell? ⟨w.heap.size,6,none⟩=some (ap s x.must.v.l.length o)/\a.cell? ⟨w.heap.size,7,none⟩=some (ap n x.must.ar.length t)/\a.cell? ⟨w.heap.size,8,none⟩=some (aq x.soft)/\a.cell? ⟨w.heap.size,9,none⟩=some (ap A x.ph.length c)/\a.cell? ⟨w.heap.size+1,0,none⟩=some (am an y.must.k)/\a.cell? ⟨w.heap.size+1,1,none⟩=some (am an y.must.op)/\a.cell? ⟨w.heap.size+1,2,none⟩=some (ao y.must.nm)/\a.cell? ⟨w.heap.size+1,3,none⟩=some (am an y.must.v.k)/\a.cell? ⟨w.heap.size+1,4,none⟩=some (am an y.must.v.n)/\a.cell? ⟨w.heap.size+1,5,none⟩=some (ao y.must.v.s)/\a.cell? ⟨w.heap.size+1,6,none⟩=some (ap m y.must.v.l.length r)/\a.cell? ⟨w.heap.size+1,7,none⟩=some (ap p y.must.ar.length q)/\a.cell? ⟨w.heap.size+1,8,none⟩=some (aq y.soft)/\a.cell? ⟨w.heap.size+1,9,none⟩=some (ap B y.ph.length d) from λ a i=>by
  have f:=f.below i f.lt;have e:=e.below i e.lt;exact⟨f.cell 0,f.cell 1,f.cell 2,f.cell 3,f.cell 4,f.cell 5,f.cell 6,f.cell 7,f.cell 8,f.cell 9,e.cell 0,e.cell 1,e.cell 2,e.cell 3,e.cell 4,e.cell 5,e.cell 6,e.cell 7,e.cell 8,e.cell 9⟩)
 have g:=qh (Below.refl W.heap.size W);have G:=qh b;obtain⟨a0,a1,Z,Q,S,X,M,a7,T,a9,P,b1,b2,b3,b4,R,L,U,b8,b9⟩:=I.o _ g.o;obtain⟨F,e0⟩:=af ((x.soft == y.soft));obtain⟨H,e1⟩:=af (bI x.must y.must);have V:=qh (show ∀ a,EG W a->Calls Tryz.prog 190 #[.agg #[am an x.must.k,am an x.must.op,ao x.must.nm,am an x.must.v.k,am an x.must.v.n,ao x.must.v.s,ap s x.must.v.l.length o,ap n x.must.ar.length t],.agg #[am an y.must.k,am an y.must.op,ao y.must.nm,am an y.must.v.k,am an y.must.v.n,ao y.must.v.s,ap m y.must.v.l.length r,ap p y.must.ar.length q]] a λ C w'=>C = av (aq H)/\EG a w' from λ a i=>e1▸GR x.must y.must D u _ _ a (v.o.keep ((b.trans (i.mono b.size)).mono j)) (z.o.keep ((b.trans (i.mono b.size)).mono l)) (aw j (b.trans (i.mono b.size)).size) (aw l (b.trans (i.mono b.size)).size));have Y:=qh (show xg x y=(F && H) from by rw[aan,<- dQ,e0,e1]);clear e1;go_enter Tryz.func140,Tryz.ntmps140;go_upto_region 1 with (fail);rw[<- K];clear K;cases F;rotate_left
 all_goals
  go_wp2_with (first | (go_at_call 190;(with_reducible refine (V.o _ g.o).mono ?_);rintro _ wq ⟨rfl,J⟩;have g:=qh (g.o.trans (J.mono g.o.size));obtain⟨a0,a1,Z,Q,S,X,M,a7,T,a9,P,b1,b2,b3,b4,R,L,U,b8,b9⟩:=I.o _ g.o;clear J));go_ret;exact⟨aj (by rw[Y.o];first | rfl | simp),G.o.trans (g.o.mono G.o.size)⟩
theorem TQ {w:World} {B:Nat} {e:qg} {cs:List Value} (h:nH w B e cs):cs.length=4/\∀ v∈cs,v.oneCell'=true:=by
 obtain⟨A,c,rfl,-⟩:=h;exact⟨rfl,by simp[agp,Value.oneCell']⟩
theorem O8 {w:World} {B:Nat} {e:gq} {cs:List Value} (h:iO w B e cs):cs.length=10/\∀ v∈cs,v.oneCell'=true:=by
 obtain⟨g,A,c,rfl,d,-⟩:=h;obtain⟨b,f⟩:=wY d;refine⟨by rw[List.length_append,b];rfl,λ v a=>?_⟩;rcases List.mem_append.1 a with q | q
 .exact f v q
 .simp at q;rcases q with rfl | rfl <;> rfl
theorem acI {α β:Type} (g:α->β) (l m:List α):nJ (λ x y=>bI (g x) (g y)) l m=bI (l.map g) (m.map g):=by
 induction l generalizing m with
 | nil=>cases m <;> (refine (dE ?_).symm;simp[nJ])
 | cons a l ih =>
  cases m with
  | nil=>refine (dE ?_).symm;simp[nJ]
  | cons b m=>rw[nJ,ih];refine (dE ?_).symm;simp[dD]
theorem O9 {l g:List gq} {A A':Option Addr} {c c' R S:Nat} {w:World} (h:au iO 10 w R A l) (U:au iO 10 w S A' g) (q:R<=w.heap.size) (r:S<=w.heap.size)
  (ih:∀ x∈l,∀ y cs ds w',iO w' R x cs->iO w' S y ds->R<=w'.heap.size->S<=w'.heap.size->CS 140 #[.agg cs.toArray,.agg ds.toArray] w' (aq (xg x y))) :
  CS 139 #[ap A l.length c,ap A' g.length c',.func (.func 140) #[] #[]] w (aq (nJ (xg) l g)):=by
 have K:=qh h;have O:=qh U;have HI:=qh ih;have hl:=h.1;have T:=U.1;unfold maxLen at hl T;clear h U ih;by_cases hll:l.length=g.length
 case neg =>
  have hn:((l.length:Int) != (g.length:Int))=true:=bne_iff_ne.2 (by omega);have HF:=qh (pM (E:=xg) hll);go_enter Tryz.func139,Tryz.ntmps139;go_wp2;go_ret;exact⟨aj HF.o.symm,Below.refl _ _⟩
 have hn:((l.length:Int) != (g.length:Int))=false:=by simp[hll]
 have vF:=qh hll;have aa:l.length<=g.length:=by omega
 clear hll;go_enter Tryz.func139,Tryz.ntmps139;go_wp2_with fail;go_loopw [17,7,8,9] (λ i _ _ _ wz=>∃ k:Nat,k<=l.length/\i = am an k/\Hid (EG w wz)/\Hid (nJ (xg) l g=nJ (xg) (l.drop k) (g.drop k))) (λ i _ _ _ _=>l.length - (intOf i).toNat)
 case atStart=>exact⟨0,ay _,rfl,qh (Below.refl _ _),qh rfl⟩
 case round =>
  obtain⟨k,hk,rfl,a,C⟩:=hrel;by_cases hlt:k<l.length
  .have B:k<g.length:=by omega
   have L:=a.o.size;obtain⟨ad,F,rfl,-,v,m⟩:=au.at_ (K.o.keep (λ _ _ h=>h.keep (a.o.mono q)) (a.o.mono q)) hlt;obtain⟨qQ,D,rfl,-,Q,d⟩:=au.at_ (O.o.keep (λ _ _ h=>h.keep (a.o.mono r)) (a.o.mono r)) B;have C:=qh (C.o.trans (oL hlt B));have I:=be hlt;obtain⟨x,hx⟩:=af (l[k]);obtain⟨y,hy⟩:=af (g[k]);rw[hx] at v C I;rw[hy] at Q C;obtain⟨o,J⟩:=O8 v;obtain⟨p,N⟩:=O8 Q;obtain⟨W1,n⟩:=aH (wr.alloc (.cells F.toArray 144 (0,0)));obtain⟨W2,s⟩:=aH (W1.alloc (.cells D.toArray 144 (0,0)));have z:EG wr W1:=n▸aB wr _;have H:EG W1 W2:=s▸aB W1 _;have X:W1.heap.size=wr.heap.size+1:=by rw[n];simp
   have Y:=(n▸ag.new wr 144 F.toArray:ag W1 wr.heap.size 144 F.toArray);have BB:=(s▸ag.new W1 144 D.toArray:ag W2 W1.heap.size 144 D.toArray);have G:(Tryz.prog.info? 144).map (·.size)=some 10:=by kernel_rfl
   have l1:=gu (w:=wr) (t:=144) Tryz.underlying144 rfl (by rw[o];exact G) m;have s1:=lI (w:=wr) (t:=144) (c:=#[.int .i64 0,.int .i64 0,.string ⟨#[]⟩,.int .i64 0,.int .i64 0,.string ⟨#[]⟩,.slice none 0 0,.slice none 0 0,.bool false,.slice none 0 0]) (c':=F.toArray) (by rw[show F.toArray.size=10 from o];exact G) (show 10=F.toArray.size from o.symm) (by rw[<- aA];exact aD.2 J);have l2:=gu (w:=W1) (t:=144) Tryz.underlying144 rfl (by rw[p];exact G) (λ j u hu=>Below.cell_of z (d j u hu));have s2:=lI (w:=W1) (t:=144) (c:=#[.int .i64 0,.int .i64 0,.string ⟨#[]⟩,.int .i64 0,.int .i64 0,.string ⟨#[]⟩,.slice none 0 0,.slice none 0 0,.bool false,.slice none 0 0]) (c':=D.toArray) (by rw[show D.toArray.size=10 from p];exact G) (show 10=D.toArray.size from p.symm) (by rw[<- aA];exact aD.2 N);have l3:=gu (w:=W2) (t:=144) Tryz.underlying144 rfl (by rw[o];exact G) (CQ (Y.below H Y.lt));have l4:=gu (w:=W2) (t:=144) Tryz.underlying144 rfl (by rw[p];exact G) (CQ BB);have f:EG wr W2:=z.trans (H.mono z.size);rw[X] at s2 l4;obtain⟨b,W⟩:=af ((xg) x y);have HC:=qh (W▸HI.o x I y F D W2 (v.keep (f.mono (aw q L))) (Q.keep (f.mono (aw r L))) (aw q (aw L f.size)) (aw r (aw L f.size)));rw[W] at C;have dH:=qh (a.o.trans (f.mono L));clear hx hy m d v Q o J p N Y BB z H G f W I K O HI;go_upto_region 6 with (fail);rw[<- n];clear n l1 s1;go_upto_region 7 with (fail);rw[<- s];clear s l2 s2;cases b
   all_goals
    go_wp2_with (go_at_call 140;(with_reducible refine HC.o.mono ?_);rintro _ w3 ⟨rfl,P⟩;have M:=qh (dH.o.trans (P.mono dH.o.size));clear P)
   .go_ret;exact⟨aj (by rw[C.o];rfl),M.o⟩
   .have aX:=qh hlt;go_roundw
    case rel=>exact⟨k+1,aX.o,by go_num,M,qh (C.o.trans (aL _))⟩
    case measure =>
     have:=aX.o;simp[intOf];omega
  .have e:k=l.length:=by omega
   subst e;have HT:=qh (show nJ (xg) l g=true by rw[C.o,aE,vF.o,aE];rfl);go_wp2_with fail;go_ret;exact⟨aj HT.o.symm,a.o⟩
theorem Ry {l g:List qg} {A A':Option Addr} {c c' R S:Nat} {w:World} (h:au nH 4 w R A l) (U:au nH 4 w S A' g) (q:R<=w.heap.size) (r:S<=w.heap.size)
  (ih:∀ x∈l,∀ y cs ds w',nH w' R x cs->nH w' S y ds->R<=w'.heap.size->S<=w'.heap.size->CS 108 #[.agg cs.toArray,.agg ds.toArray] w' (aq (bI x y))) :
  CS 107 #[ap A l.length c,ap A' g.length c',.func (.func 108) #[] #[]] w (aq (nJ (bI) l g)):=by
 have K:=qh h;have O:=qh U;have HI:=qh ih;have hl:=h.1;have T:=U.1;unfold maxLen at hl T;clear h U ih;by_cases hll:l.length=g.length
 case neg =>
  have hn:((l.length:Int) != (g.length:Int))=true:=bne_iff_ne.2 (by omega);have HF:=qh (pM (E:=bI) hll);go_enter Tryz.func107,Tryz.ntmps107;go_wp2;go_ret;exact⟨aj HF.o.symm,Below.refl _ _⟩
 have hn:((l.length:Int) != (g.length:Int))=false:=by simp[hll]
 have vF:=qh hll;have aa:l.length<=g.length:=by omega
 clear hll;go_enter Tryz.func107,Tryz.ntmps107;go_wp2_with fail;go_loopw [17,7,8,9] (λ i _ _ _ wz=>∃ k:Nat,k<=l.length/\i = am an k/\Hid (EG w wz)/\Hid (nJ (bI) l g=nJ (bI) (l.drop k) (g.drop k))) (λ i _ _ _ _=>l.length - (intOf i).toNat)
 case atStart=>exact⟨0,ay _,rfl,qh (Below.refl _ _),qh rfl⟩
 case round =>
  obtain⟨k,hk,rfl,a,C⟩:=hrel;by_cases hlt:k<l.length
  .have B:k<g.length:=by omega
   have L:=a.o.size;obtain⟨ad,F,rfl,-,v,m⟩:=au.at_ (K.o.keep (λ _ _ h=>h.keep (a.o.mono q)) (a.o.mono q)) hlt;obtain⟨qQ,D,rfl,-,Q,d⟩:=au.at_ (O.o.keep (λ _ _ h=>h.keep (a.o.mono r)) (a.o.mono r)) B;have C:=qh (C.o.trans (oL hlt B));have I:=be hlt;obtain⟨x,hx⟩:=af (l[k]);obtain⟨y,hy⟩:=af (g[k]);rw[hx] at v C I;rw[hy] at Q C;obtain⟨o,J⟩:=TQ v;obtain⟨p,N⟩:=TQ Q;obtain⟨W1,n⟩:=aH (wr.alloc (.cells F.toArray 95 (0,0)));obtain⟨W2,s⟩:=aH (W1.alloc (.cells D.toArray 95 (0,0)));have z:EG wr W1:=n▸aB wr _;have H:EG W1 W2:=s▸aB W1 _;have X:W1.heap.size=wr.heap.size+1:=by rw[n];simp
   have Y:=(n▸ag.new wr 95 F.toArray:ag W1 wr.heap.size 95 F.toArray);have BB:=(s▸ag.new W1 95 D.toArray:ag W2 W1.heap.size 95 D.toArray);have G:(Tryz.prog.info? 95).map (·.size)=some 4:=by kernel_rfl
   have l1:=gu (w:=wr) (t:=95) Tryz.underlying95 rfl (by rw[o];exact G) m;have s1:=lI (w:=wr) (t:=95) (c:=#[.int .i64 0,.slice none 0 0,.bool false,.bool false]) (c':=F.toArray) (by rw[show F.toArray.size=4 from o];exact G) (show 4=F.toArray.size from o.symm) (by rw[<- aA];exact aD.2 J);have l2:=gu (w:=W1) (t:=95) Tryz.underlying95 rfl (by rw[p];exact G) (λ j u hu=>Below.cell_of z (d j u hu));have s2:=lI (w:=W1) (t:=95) (c:=#[.int .i64 0,.slice none 0 0,.bool false,.bool false]) (c':=D.toArray) (by rw[show D.toArray.size=4 from p];exact G) (show 4=D.toArray.size from p.symm) (by rw[<- aA];exact aD.2 N);have l3:=gu (w:=W2) (t:=95) Tryz.underlying95 rfl (by rw[o];exact G) (CQ (Y.below H Y.lt));have l4:=gu (w:=W2) (t:=95) Tryz.underlying95 rfl (by rw[p];exact G) (CQ BB);have f:EG wr W2:=z.trans (H.mono z.size);rw[X] at s2 l4;obtain⟨b,W⟩:=af ((bI) x y);have HC:=qh (W▸HI.o x I y F D W2 (v.keep (f.mono (aw q L))) (Q.keep (f.mono (aw r L))) (aw q (aw L f.size)) (aw r (aw L f.size)));rw[W] at C;have dH:=qh (a.o.trans (f.mono L));clear hx hy m d v Q o J p N Y BB z H G f W I K O HI;go_upto_region 6 with (fail);rw[<- n];clear n l1 s1;go_upto_region 7 with (fail);rw[<- s];clear s l2 s2;cases b
   all_goals
    go_wp2_with (go_at_call 108;(with_reducible refine HC.o.mono ?_);rintro _ w3 ⟨rfl,P⟩;have M:=qh (dH.o.trans (P.mono dH.o.size));clear P)
   .go_ret;exact⟨aj (by rw[C.o];rfl),M.o⟩
   .have aX:=qh hlt;go_roundw
    case rel=>exact⟨k+1,aX.o,by go_num,M,qh (C.o.trans (aL _))⟩
    case measure =>
     have:=aX.o;simp[intOf];omega
  .have e:k=l.length:=by omega
   subst e;have HT:=qh (show nJ (bI) l g=true by rw[C.o,aE,vF.o,aE];rfl);go_wp2_with fail;go_ret;exact⟨aj HT.o.symm,a.o⟩
theorem Pg (x y:aW):bI x y=(bI x.nm y.nm && bI x.os y.os):=by
 cases x;cases y;refine dE ?_;simp only[aW.mk.injEq,ax,dD]
theorem Lj {x y:aW} {t o:Nat} {cs ds:List Value} {w:World} (h:dW w t x cs) (v:dW w o y ds) (g:t<=w.heap.size) (i:o<=w.heap.size) :
  CS 64 #[.agg cs.toArray,.agg ds.toArray] w (aq (bI x y)):=by
 obtain⟨A,c,rfl,C,-⟩:=h;obtain⟨B,d,rfl,l,-⟩:=v;show Calls Tryz.prog 64 #[.agg #[ao x.nm,ap A x.os.length c],.agg #[ao y.nm,ap B y.os.length d]] w _;obtain⟨W,u,a,k,j,I⟩:=Ro w 92 92 #[ao x.nm,ap A x.os.length c] #[ao y.nm,ap B y.os.length d];have r:=qh (show ∀ b,EG W b->b.cell? ⟨w.heap.size,0,none⟩=some (ao x.nm)/\b.cell? ⟨w.heap.size,1,none⟩=some (ap A x.os.length c)/\b.cell? ⟨w.heap.size+1,0,none⟩=some (ao y.nm)/\b.cell? ⟨w.heap.size+1,1,none⟩=some (ap B y.os.length d) from λ b e=>by
  have k:=k.below e k.lt;have j:=j.below e j.lt;exact⟨k.cell 0,k.cell 1,j.cell 0,j.cell 1⟩)
 have f:=qh (Below.refl W.heap.size W);have p:=qh a;obtain⟨H,K,z,b1⟩:=r.o _ f.o;obtain⟨n,e0⟩:=af ((x.nm.toList == y.nm.toList));obtain⟨q,e1⟩:=af (bI x.os y.os);have D:=qh (show ∀ b,EG W b->Calls Tryz.prog 107 #[ap A x.os.length c,ap B y.os.length d,.func (.func 108) #[] #[]] b λ m w'=>m = av (aq q)/\EG b w' from λ b e=>e1▸(CU x.os y.os▸Ry (C.keep (λ _ _ h=>h.keep ((a.trans (e.mono a.size)).mono g)) ((a.trans (e.mono a.size)).mono g)) (l.keep (λ _ _ h=>h.keep ((a.trans (e.mono a.size)).mono i)) ((a.trans (e.mono a.size)).mono i)) (aw g (a.trans (e.mono a.size)).size) (aw i (a.trans (e.mono a.size)).size) (λ _ _ _ _ _ _ J L E F=>O7 J L E F)));have G:=qh (show bI x y=(n && q) from by rw[Pg,<- lu,e0,e1]);clear e1;go_enter Tryz.func64,Tryz.ntmps64;go_upto_region 1 with (fail);rw[<- u];clear u;cases n;rotate_left
 all_goals
  go_wp2_with (first | (go_at_call 107;(with_reducible refine (D.o _ f.o).mono ?_);rintro _ M ⟨rfl,s⟩;have f:=qh (f.o.trans (s.mono f.o.size));obtain⟨H,K,z,b1⟩:=r.o _ f.o;clear s));go_ret;exact⟨aj (by rw[G.o];first | rfl | simp),p.o.trans (f.o.mono p.o.size)⟩
theorem acJ (x y:jS):bI x.bare y.bare=(bI x.k y.k && bI x.lo y.lo && bI x.hi y.hi && bI x.pl y.pl && bI x.ls y.ls && bI x.only y.only && bI x.sh y.sh && decide (x.rs=y.rs) && bI x.need y.need && bI (x.ch.map DF) (y.ch.map DF)):=by
 cases x;cases y;refine dE ?_;simp only[jS.bare,jS.mk.injEq,ax,dD,decide_eq_true_eq,and_assoc];rfl
theorem Ph {x y:jS} {t m s B1 B2 B3:Option Addr} {l q p r n o P R:Nat} {w:World} (h:nI w P x t l m q s p) (v:nI w R y B1 r B2 n B3 o) (d:P<=w.heap.size) (e:R<=w.heap.size) :
  CS 95 #[.agg (Bd x t l m q s p),.agg (Bd y B1 r B2 n B3 o)] w (aq (bI x.bare y.bare)):=by
 obtain⟨W,hW,b,i,g,aa⟩:=Ro w 57 57 (Bd x t l m q s p) (Bd y B1 r B2 n B3 o);have u:=qh (show ∀ a,EG W a->a.cell? ⟨w.heap.size,0,none⟩=some (am an x.k)/\a.cell? ⟨w.heap.size,1,none⟩=some (am an x.lo)/\a.cell? ⟨w.heap.size,2,none⟩=some (am an x.hi)/\a.cell? ⟨w.heap.size,3,none⟩=some (am an x.pl)/\a.cell? ⟨w.heap.size,4,none⟩=some (ao x.ls)/\a.cell? ⟨w.heap.size,5,none⟩=some (ap t x.only.length l)/\a.cell? ⟨w.heap.size,6,none⟩=some (aq x.sh)/\a.cell? ⟨w.heap.size,7,none⟩=some (ap m x.rs.length q)/\a.cell? ⟨w.heap.size,8,none⟩=some (aq x.need)/\a.cell? ⟨w.heap.size,9,none⟩=some (ap s x.ch.length p)/\a.cell? ⟨w.heap.size+1,0,none⟩=some (am an y.k)/\a.cell? ⟨w.heap.size+1,1,none⟩=some (am an y.lo)/\a.cell? ⟨w.heap.size+1,2,none⟩=some (am an y.hi)/\a.cell? ⟨w.heap.size+1,3,none⟩=some (am an y.pl)/\a.cell? ⟨w.heap.size+1,4,none⟩=some (ao y.ls)/\a.cell? ⟨w.heap.size+1,5,none⟩=some (ap B1 y.only.length r)/\a.cell? ⟨w.heap.size+1,6,none⟩=some (aq y.sh)/\a.cell? ⟨w.heap.size+1,7,none⟩=some (ap B2 y.rs.length n)/\a.cell? ⟨w.heap.size+1,8,none⟩=some (aq y.need)/\a.cell? ⟨w.heap.size+1,9,none⟩=some (ap B3 y.ch.length o) from λ a c=>by
  have i:=i.below c i.lt;have g:=g.below c g.lt;exact⟨i.cell 0,i.cell 1,i.cell 2,i.cell 3,i.cell 4,i.cell 5,i.cell 6,i.cell 7,i.cell 8,i.cell 9,g.cell 0,g.cell 1,g.cell 2,g.cell 3,g.cell 4,g.cell 5,g.cell 6,g.cell 7,g.cell 8,g.cell 9⟩)
 have f:=qh (Below.refl W.heap.size W);have dH:=qh b;obtain⟨U,V,N,D,F,H,Q,A,M,z,K,b1,b2,b3,I,E,B,G,b8,O⟩:=u.o _ f.o;obtain⟨g0,e0⟩:=af ((x.k == y.k));obtain⟨g1,e1⟩:=af ((x.lo == y.lo));obtain⟨g2,e2⟩:=af ((x.hi == y.hi));obtain⟨g3,e3⟩:=af ((x.pl == y.pl));obtain⟨Z,e4⟩:=af ((x.ls.toList == y.ls.toList));obtain⟨C,L⟩:=af (bI x.only y.only);have K5:=qh (show ∀ a,EG W a->Calls Tryz.prog 137 #[ap t x.only.length l,ap B1 y.only.length r] a λ k w'=>k = av (aq C)/\EG a w' from λ a c=>L▸qU (h.h1.keep (λ _ _ h=>h.keep ((b.trans (c.mono b.size)).mono d)) ((b.trans (c.mono b.size)).mono d)) (v.h1.keep (λ _ _ h=>h.keep ((b.trans (c.mono b.size)).mono e)) ((b.trans (c.mono b.size)).mono e)) (aw d (b.trans (c.mono b.size)).size) (aw e (b.trans (c.mono b.size)).size));obtain⟨Y,e6⟩:=af ((x.sh == y.sh));obtain⟨J,T⟩:=af (decide (x.rs=y.rs));have K7:=qh (show ∀ a,EG W a->Calls Tryz.prog 138 #[ap m x.rs.length q,ap B2 y.rs.length n] a λ k w'=>k = av (aq J)/\EG a w' from λ a c=>T▸uP _ _ _ _ _ _ P R _ _ _ h.l4 v.l4 (h.h2.below ((b.trans (c.mono b.size)).mono d)) (v.h2.below ((b.trans (c.mono b.size)).mono e)) (aw d (b.trans (c.mono b.size)).size) (aw e (b.trans (c.mono b.size)).size));obtain⟨g8,e8⟩:=af ((x.need == y.need));obtain⟨g9,S⟩:=af (bI (x.ch.map DF) (y.ch.map DF));have K9:=qh (show ∀ a,EG W a->Calls Tryz.prog 139 #[ap s x.ch.length p,ap B3 y.ch.length o,.func (.func 140) #[] #[]] a λ k w'=>k = av (aq g9)/\EG a w' from λ a c=>S▸((acI DF x.ch y.ch:nJ xg x.ch y.ch=_)▸O9 (h.h3.keep (λ _ _ h=>h.keep ((b.trans (c.mono b.size)).mono d)) ((b.trans (c.mono b.size)).mono d)) (v.h3.keep (λ _ _ h=>h.keep ((b.trans (c.mono b.size)).mono e)) ((b.trans (c.mono b.size)).mono e)) (aw d (b.trans (c.mono b.size)).size) (aw e (b.trans (c.mono b.size)).size) (λ _ _ _ _ _ _ h1 h2 h3 h4=>Lh h1 h2 h3 h4)));have HR:=qh (show bI x.bare y.bare=(g0 && g1 && g2 && g3 && Z && C && Y && J && g8 && g9) from by rw[acJ,<- dQ x.k,<- dQ x.lo,<- dQ x.hi,<- dQ x.pl,<- lu,<- dQ x.sh,<- dQ x.need,e0,e1,e2,e3,e4,L,e6,T,e8,S]);clear L;clear T;clear S;go_enter Tryz.func95,Tryz.ntmps95;go_upto_region 1 with (fail);rw[<- hW];clear hW;cases g0;rotate_left;cases g1;rotate_left;cases g2;rotate_left;cases g3;rotate_left;cases Z;rotate_left;cases C;rotate_left;cases Y;rotate_left;cases J;rotate_left;cases g8;rotate_left
 all_goals
  go_wp2_with (first | (go_at_call 137;(with_reducible refine (K5.o _ f.o).mono ?_);rintro _ X ⟨rfl,j⟩;have f:=qh (f.o.trans (j.mono f.o.size));obtain⟨U,V,N,D,F,H,Q,A,M,z,K,b1,b2,b3,I,E,B,G,b8,O⟩:=u.o _ f.o;clear j) | (go_at_call 138;(with_reducible refine (K7.o _ f.o).mono ?_);rintro _ X ⟨rfl,j⟩;have f:=qh (f.o.trans (j.mono f.o.size));obtain⟨U,V,N,D,F,H,Q,A,M,z,K,b1,b2,b3,I,E,B,G,b8,O⟩:=u.o _ f.o;clear j) | (go_at_call 139;(with_reducible refine (K9.o _ f.o).mono ?_);rintro _ X ⟨rfl,j⟩;have f:=qh (f.o.trans (j.mono f.o.size));obtain⟨U,V,N,D,F,H,Q,A,M,z,K,b1,b2,b3,I,E,B,G,b8,O⟩:=u.o _ f.o;clear j));go_ret;exact⟨aj (by rw[HR.o];first | rfl | simp),dH.o.trans (f.o.mono dH.o.size)⟩
end Go.Proofs.YtcnagconagpkcaaGreatDoor
namespace Go.Proofs.YtcnagconagpkcaaGreatDoor
open Go.RowKit
attribute [local go_sem ↓] Go.wp_at_zero Go.wp_at_succ
attribute [local go_sem ↓] ld_item st_item ld_node st_node ld_ans st_ans ld_part st_part ld_rule st_rule ld_form st_form
set_option maxHeartbeats 4000000
set_option maxRecDepth 100000
noncomputable def PL (x y:ItemD):Bool:=bI x.k y.k && bI x.iff y.iff && bI x.sh y.sh && bI x.cnt y.cnt && bI x.over y.over && bI x.cmp y.cmp
theorem acK {x y:ItemD}:PL x y=true ↔ rtE x y:=by
 unfold PL rtE;simp only[ax,dD,and_assoc]
structure acL (w:World) (B:Nat) (x:ItemD) (A1 A4 A5:Option Addr):Prop where
 h1:au aQ 8 w B A1 x.iff
 h4:au aQ 8 w B A4 x.cnt
 h5:au aQ 8 w B A5 x.cmp
theorem Rz {x y:ItemD} {o K V k n B1 B2 B3 p J U l m N Q2 R:Option Addr} {q P M r v b1 b2 b3 s Z Y u t S E q3:Nat} {T X:Nat} {w:World} (h:acL w T x o k n) (z:acL w X y p l m) (d:T<=w.heap.size) (e:X<=w.heap.size) :
  CS 94 #[.agg (Bg x o q K P V M k r B1 b1 B2 b2 B3 b3 n v),.agg (Bg y p s J Z U Y l u N S Q2 E R q3 m t)] w (aq (PL x y)):=by
 obtain⟨W,H,a,i,f,aa⟩:=Ro w 59 59 (Bg x o q K P V M k r B1 b1 B2 b2 B3 b3 n v) (Bg y p s J Z U Y l u N S Q2 E R q3 m t);have F:=qh (show ∀ b,EG W b->b.cell? ⟨w.heap.size,0,none⟩=some (am an x.k)/\b.cell? ⟨w.heap.size,2,none⟩=some (ap o x.iff.length q)/\b.cell? ⟨w.heap.size,5,none⟩=some (aq x.sh)/\b.cell? ⟨w.heap.size,6,none⟩=some (ap k x.cnt.length r)/\b.cell? ⟨w.heap.size,7,none⟩=some (ao x.over)/\b.cell? ⟨w.heap.size,18,none⟩=some (ap n x.cmp.length v)/\b.cell? ⟨w.heap.size+1,0,none⟩=some (am an y.k)/\b.cell? ⟨w.heap.size+1,2,none⟩=some (ap p y.iff.length s)/\b.cell? ⟨w.heap.size+1,5,none⟩=some (aq y.sh)/\b.cell? ⟨w.heap.size+1,6,none⟩=some (ap l y.cnt.length u)/\b.cell? ⟨w.heap.size+1,7,none⟩=some (ao y.over)/\b.cell? ⟨w.heap.size+1,18,none⟩=some (ap m y.cmp.length t) from λ b c=>by
  have i:=i.below c i.lt;have f:=f.below c f.lt;exact⟨i.cell 0,i.cell 2,i.cell 5,i.cell 6,i.cell 7,i.cell 18,f.cell 0,f.cell 2,f.cell 5,f.cell 6,f.cell 7,f.cell 18⟩)
 have g:=qh (Below.refl W.heap.size W);have L:=qh a;obtain⟨a0,a2,a5,a6,a7,PK,b0,b2,b5,b6,b7,A⟩:=F.o _ g.o;obtain⟨Q,e0⟩:=af ((x.k == y.k));obtain⟨B,e1⟩:=af (bI x.iff y.iff);have K1:=qh (show ∀ b,EG W b->Calls Tryz.prog 137 #[ap o x.iff.length q,ap p y.iff.length s] b λ j w'=>j = av (aq B)/\EG b w' from λ b c=>e1▸qU (h.h1.keep (λ _ _ h=>h.keep ((a.trans (c.mono a.size)).mono d)) ((a.trans (c.mono a.size)).mono d)) (z.h1.keep (λ _ _ h=>h.keep ((a.trans (c.mono a.size)).mono e)) ((a.trans (c.mono a.size)).mono e)) (aw d (a.trans (c.mono a.size)).size) (aw e (a.trans (c.mono a.size)).size));obtain⟨g2,e2⟩:=af ((x.sh == y.sh));obtain⟨D,e3⟩:=af (bI x.cnt y.cnt);have K3:=qh (show ∀ b,EG W b->Calls Tryz.prog 137 #[ap k x.cnt.length r,ap l y.cnt.length u] b λ j w'=>j = av (aq D)/\EG b w' from λ b c=>e3▸qU (h.h4.keep (λ _ _ h=>h.keep ((a.trans (c.mono a.size)).mono d)) ((a.trans (c.mono a.size)).mono d)) (z.h4.keep (λ _ _ h=>h.keep ((a.trans (c.mono a.size)).mono e)) ((a.trans (c.mono a.size)).mono e)) (aw d (a.trans (c.mono a.size)).size) (aw e (a.trans (c.mono a.size)).size));obtain⟨G,e4⟩:=af ((x.over.toList == y.over.toList));obtain⟨I,C⟩:=af (bI x.cmp y.cmp);have K5:=qh (show ∀ b,EG W b->Calls Tryz.prog 137 #[ap n x.cmp.length v,ap m y.cmp.length t] b λ j w'=>j = av (aq I)/\EG b w' from λ b c=>C▸qU (h.h5.keep (λ _ _ h=>h.keep ((a.trans (c.mono a.size)).mono d)) ((a.trans (c.mono a.size)).mono d)) (z.h5.keep (λ _ _ h=>h.keep ((a.trans (c.mono a.size)).mono e)) ((a.trans (c.mono a.size)).mono e)) (aw d (a.trans (c.mono a.size)).size) (aw e (a.trans (c.mono a.size)).size));have HR:=qh (show PL x y=(Q && B && g2 && D && G && I) from by unfold PL;rw[<- dQ x.k,<- dQ x.sh,<- lu,e0,e1,e2,e3,e4,C]);clear e1;clear e3;clear C;go_enter Tryz.func94,Tryz.ntmps94;go_upto_region 1 with (fail);rw[<- H];clear H;cases Q;rotate_left;cases B;rotate_left;cases g2;rotate_left;cases D;rotate_left;cases G;rotate_left
 all_goals
  go_wp2_with (first | (go_at_call 137;(first | (with_reducible refine (K1.o _ g.o).mono ?_) | (with_reducible refine (K3.o _ g.o).mono ?_) | (with_reducible refine (K5.o _ g.o).mono ?_));rintro _ wq ⟨rfl,O⟩;have g:=qh (g.o.trans (O.mono g.o.size));obtain⟨a0,a2,a5,a6,a7,PK,b0,b2,b5,b6,b7,A⟩:=F.o _ g.o;clear O));go_ret;exact⟨aj (by rw[HR.o];first | rfl | simp),L.o.trans (g.o.mono L.o.size)⟩
def TR:List gq->List gq->Bool
 | r :: l,s :: m=>decide (r.ph=s.ph) && TR l m
 | _,_=>true
def phB (x y:ItemD):Bool:=decide (x.ph=y.ph) && TR x.ans.ch y.ans.ch
theorem TS:∀ {l m:List gq},TR l m=true ↔ ∀ i (h:i<l.length) (c:i<m.length),l[i].ph=m[i].ph
 | [],m=>by simp[TR]
 | _ :: _,[]=>by simp[TR]
 | r :: l,s :: m=>by
  rw[TR,ax,TS,decide_eq_true_eq];constructor
  .rintro ⟨a,b⟩ i h c;cases i with
   | zero=>exact a
   | succ i=>exact b i (by simpa using h) (by simpa using c)
  .exact λ h=>⟨h 0 (by simp) (by simp),λ i a b=>h (i+1) (by simpa using a) (by simpa using b)⟩
theorem acM {x y:ItemD}:phB x y=true ↔ phE x y:=by
 unfold phB phE;rw[ax,decide_eq_true_eq,TS]
theorem aao {l m:List gq} {k:Nat} (h:k<l.length) (a:k<m.length):TR (l.drop k) (m.drop k)=(decide (l[k].ph=m[k].ph) && TR (l.drop (k+1)) (m.drop (k+1))):=by
 rw[bf h,bf a,TR]
theorem acN {l m:List gq} {k:Nat} (h:l.length<=k\/m.length<=k):TR (l.drop k) (m.drop k)=true:=by
 rcases h with h | h
 .rw[bg h];rfl
 .rw[bg h];cases l.drop k <;> rfl
theorem TT {w:World} {B:Nat} {r:gq} {cs:List Value} (h:iO w B r cs):∃ A c,cs[9]?=some (ap A r.ph.length c)/\nP w B A c r.ph:=by
 obtain⟨d,A,c,rfl,a,b⟩:=h;refine⟨A,c,?_,b⟩;rw[List.getElem?_append_right (by rw[(wY a).1];decide),(wY a).1];rfl
theorem RD {x y:ItemD} {A1 D A3 A4 A5 B1 B2 B3 P1 C P3 P4 P5 Q1 Q2 V:Option Addr} {c1 F c3 c4 c5 b1 b2 b3 p1 Q p3 p4 p5 I z q3:Nat} {K O:Nat} {w:World} (t:nP w K D F x.ph) (o:nP w O C Q y.ph) (hc:au iO 10 w K B3 x.ans.ch) (s:au iO 10 w O V y.ans.ch) (e:K<=w.heap.size) (f:O<=w.heap.size) :
  CS 96 #[.agg (Bg x A1 c1 D F A3 c3 A4 c4 B1 b1 B2 b2 B3 b3 A5 c5),.agg (Bg y P1 p1 C Q P3 p3 P4 p4 Q1 I Q2 z V q3 P5 p5)] w (aq (phB x y)):=by
 obtain⟨W,hW,d,R,H,ac⟩:=Ro w 59 59 (Bg x A1 c1 D F A3 c3 A4 c4 B1 b1 B2 b2 B3 b3 A5 c5) (Bg y P1 p1 C Q P3 p3 P4 p4 Q1 I Q2 z V q3 P5 p5);have X:=qh (show ∀ c,EG W c->c.cell? ⟨w.heap.size,3,none⟩=some (ap D x.ph.length F)/\c.cell? ⟨w.heap.size,17,none⟩=some (ap B3 x.ans.ch.length b3)/\c.cell? ⟨w.heap.size+1,3,none⟩=some (ap C y.ph.length Q)/\c.cell? ⟨w.heap.size+1,17,none⟩=some (ap V y.ans.ch.length q3) from λ c v=>by
  have R:=R.below v R.lt;have H:=H.below v H.lt;exact⟨R.cell 3,R.cell 17,H.cell 3,H.cell 17⟩)
 have q:=qh d;obtain⟨a3,J,b3,A⟩:=X.o _ (Below.refl W.heap.size W);obtain⟨g,hg⟩:=af (decide (x.ph=y.ph));have KP:=qh (show Calls Tryz.prog 141 #[ap D x.ph.length F,ap C y.ph.length Q] W λ S w'=>S = av (aq g)/\EG W w' from hg▸qR _ _ _ _ _ _ K O _ _ _ t.2.2.1 o.2.2.1 (t.1.below (d.mono e)) (o.1.below (d.mono f)) (aw e d.size) (aw f d.size));have Z:=qh (show phB x y=(g && TR x.ans.ch y.ans.ch) by rw[<- hg];rfl);have hl:=hc.1;have Y:=s.1;unfold maxLen at hl Y;have HC:=qh (And.intro hc s);clear hg t o hc s;go_enter Tryz.func96,Tryz.ntmps96;go_upto_region 1 with (fail);rw[<- hW];clear hW;cases g
 .go_wp2_with (go_at_call 141;(with_reducible refine KP.o.mono ?_);rintro _ w1 ⟨rfl,n⟩);go_ret;exact⟨aj (by rw[Z.o];rfl),q.o.trans (n.mono q.o.size)⟩
 generalize L:x.ans.ch.length=n1 at *;generalize M:y.ans.ch.length=n2 at *;obtain⟨m,hm,aa,ak,ae⟩:∃ m:Nat,min (n1:Int) (n2:Int)=(m:Int)/\m<=n1/\m<=n2/\(n1<=m\/n2<=m):=⟨min n1 n2,by omega,by omega,by omega,by omega⟩;have p:=qh (And.intro L M);clear L M;go_wp2_with (go_at_call 141;(with_reducible refine KP.o.mono ?_);rintro _ w1 ⟨rfl,n⟩;have HB:=qh n;obtain⟨a3,J,b3,A⟩:=X.o _ n;clear n);go_loopw [21,5] (λ i _ wz=>∃ k:Nat,k<=m/\i = am an k/\Hid (EG W wz)/\Hid (TR x.ans.ch y.ans.ch=TR (x.ans.ch.drop k) (y.ans.ch.drop k))) (λ i _ _=>m - (intOf i).toNat)
 case atStart=>exact⟨0,ay _,rfl,HB,qh rfl⟩
 case round =>
  obtain⟨k,hk,rfl,l,r⟩:=hrel;obtain⟨a3,J,b3,A⟩:=X.o _ l.o;have u:=q.o.trans (l.o.mono q.o.size);by_cases hlt:k<m
  .have h1:k<x.ans.ch.length:=by rw[p.o.1];omega
   have t:k<y.ans.ch.length:=by rw[p.o.2];omega
   have ab:k<n1:=by omega
   have o:k<n2:=by omega
   obtain⟨ad,ci,rfl,-,G,j⟩:=au.at_ (HC.o.1.keep (λ _ _ h=>h.keep (u.mono e)) (u.mono e)) h1;obtain⟨qQ,wZ,rfl,-,fU,a⟩:=au.at_ (HC.o.2.keep (λ _ _ h=>h.keep (u.mono f)) (u.mono f)) t;have r:=qh (r.o.trans (aao h1 t));obtain⟨R1,t1,I,U⟩:=TT G;obtain⟨R2,t2,z,T⟩:=TT fU;have l1:wr.cell? (⟨(ad.add (k*10)).block,(ad.add (k*10)).off+9,none⟩)=some _:=j 9 _ I;have l2:wr.cell? (⟨(qQ.add (k*10)).block,(qQ.add (k*10)).off+9,none⟩)=some _:=a 9 _ z;obtain⟨s1,B⟩:=af (x.ans.ch[k].ph);obtain⟨s2,P⟩:=af (y.ans.ch[k].ph);rw[B] at l1 U r;rw[P] at l2 T r;obtain⟨b,v⟩:=af (decide (s1=s2));have hz:=u.size;have KQ:=qh (show Calls Tryz.prog 141 #[ap R1 s1.length t1,ap R2 s2.length t2] wr.drew λ S w'=>S = av (aq b)/\Below wr.heap.size wr.drew w' from v▸qR _ _ _ _ _ _ K O _ _ _ U.2.2.1 T.2.2.1 (U.1.below (Below.refl _ _).drew) (T.1.below (Below.refl _ _).drew) (aw e hz) (aw f hz));rw[v] at r;have aX:=qh hlt;clear j a G fU I z U T B P v h1 t u HC;go_upto_region 6 with (fail);cases b
   all_goals
    go_region_with (go_at_call 141;(with_reducible refine KQ.o.mono ?_);rintro _ w3 ⟨rfl,N⟩;have E:=qh (l.o.trans (((Below.refl _ wr).drew.trans N).mono l.o.size));clear N)
   rotate_left
   all_goals try (go_wp2;go_ret;exact⟨aj (by rw[Z.o,r.o];rfl),q.o.trans (E.o.mono q.o.size)⟩)
   all_goals
    go_wp2;go_roundw
    case rel=>exact⟨k+1,aX.o,by go_num,E,qh (r.o.trans (aL _))⟩
    case measure =>
     have:=aX.o;simp[intOf];omega
  .have HT:=qh (show TR x.ans.ch y.ans.ch=true by rw[r.o];exact acN (by rw[p.o.1,p.o.2];omega));go_wp2_with fail;go_ret;exact⟨aj (by rw[Z.o,HT.o];rfl),q.o.trans (l.o.mono q.o.size)⟩
end Go.Proofs.YtcnagconagpkcaaGreatDoor
