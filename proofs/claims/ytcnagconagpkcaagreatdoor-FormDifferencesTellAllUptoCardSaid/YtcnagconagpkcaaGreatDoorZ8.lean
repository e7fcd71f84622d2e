/- Lemmas. -/
import Derived.Test.YtcnagconagpkcaaGreatDoorZ7
set_option maxHeartbeats 4000000
set_option maxRecDepth 100000
open Go.Value renaming int->ae, string->al, slice->am, bool->an, string->ax, tuple->bd
open Go.IntKind renaming i64->ak
open Go.Ending renaming returned->ao
open Nat renaming le_refl->ap, zero_le->aA, lt_or_ge->aE, pow_le_pow_right->a8, le_trans->bi
open List renaming length_cons->aq, length_append->av, length_nil->aw, map_cons->aZ, mem_cons_self->a0, getD_eq_getElem?_getD->a3, all_cons->a4, take_succ_eq_append_getElem->a5, getElem_mem->a7, take_of_length_le->a9, mem_cons_of_mem->bf, map_append->bg, length_reverse->bh, length_singleton->bj, mem_of_getElem?->bk, getElem?_map->bl
open Go.Lib renaming join->ay, itoa->aD, cut->aL, trimRightB->aX, replaceAll->a2, trimPrefix->ba, splitB_all->bb, countB_le->bc, join_cons->be
open Go.ByteArray renaming toList_eq->aM
open Array renaming getElem?_eq_none->aR
open Bool renaming or_eq_false_iff->a1, eq_false_iff->a6
namespace Go.Proofs.YtcnagconagpkcaaGreatDoor
open Go.RowKit Dig Vtx
theorem vG {t:ByteArray} {l:List UInt8} (h:t.data.toList=l):t=⟨l.toArray⟩:=by subst h;rfl
theorem oG {t:ByteArray} {l:List UInt8} (h:t.data.toList=l):t.size=l.length:=by rw[<- h];rfl
theorem fG (a b:ByteArray):(a ++ b).data.toList=a.data.toList ++ b.data.toList:=by rw[ByteArray.data_append,Array.toList_append]
def uw (l:List UInt8):Value:=.tuple #[ae ak ((dF l).1:Nat),an (dF l).2]
theorem IY {l:List UInt8} (h:l = []\/15<l.length):uw l = .tuple #[ae ak 0,an false]:=by unfold uw dF;rw[if_pos h];rfl
theorem FB {l:List UInt8} (h:l.all fO=false):uw l = .tuple #[ae ak 0,an false]:=by
 unfold uw dF;split
 .rfl
 .rw[h];rfl
theorem UU {l:List UInt8} (a:l≠[]) (b:l.length<=15) (h:l.all fO=true):uw l = .tuple #[ae ak (eu l:Nat),an true]:=by
 unfold uw dF;rw[if_neg (by simp[a];omega),if_pos h]
theorem IZ:∀ (l:List UInt8),l.all fO=true->eu l<10 ^ l.length:=by
 intro l
 induction l with
 | nil=>intro _;decide
 | cons b r ih =>
  intro h;rw[a4,Bool.and_eq_true] at h;have:=ih h.2;have a:=h.1;simp only[fO,Bool.and_eq_true,decide_eq_true_eq] at a;rw[CZ,aq,Nat.pow_succ];have:(b.toNat - 48)*10 ^ r.length<=9*10 ^ r.length:=Nat.mul_le_mul_right _ (by omega);omega
theorem abB {s:ByteArray} {k:Nat} (h:k<s.size):∃ a:k<s.data.toList.length,s.data.toList[k]=s[k]:=⟨by simpa using h,rfl⟩
theorem nS (s:ByteArray) (w:World) :
  He 332 #[al s] w (uw s.data.toList):=by
 by_cases h0:s=⟨#[]⟩
 .subst h0;go_enter Tryz.func332,Tryz.ntmps332;go_wp2;go_ret2;exact⟨dC (IY (.inl rfl)).symm,rfl⟩
 have a:s.data.toList≠[]:=λ e=>h0 (vG e);have F:s.toList.isEmpty=false:=by rw[aM];simpa using a
 have c:s.data.toList.length=s.size:=rfl;by_cases h1:15<s.size
 .have B:=qh (IY (l:=s.data.toList) (.inr (by rw[c];exact h1)));clear a c h0;go_enter Tryz.func332,Tryz.ntmps332;go_wp2;go_ret2;exact⟨dC B.o.symm,rfl⟩
 have G:s.size<=15:=by omega
 have x:=qh a;have d:=qh c;clear a c h0 h1;go_enter Tryz.func332,Tryz.ntmps332;go_wp2
 go_loop [4,5] (λ n i=>∃ k v:Nat,k<=s.size/\i = ae ak (k:Int)/\n = ae ak (v:Int)/\v<=1000000000000000/\Hid (v=eu (s.data.toList.take k)/\(s.data.toList.take k).all fO=true)) (λ _ i=>s.size - (intOf i).toNat)
 case atStart=>exact⟨0,0,aA _,rfl,rfl,by omega,qh ⟨rfl,rfl⟩⟩
 case round =>
  obtain⟨k,v,H,rfl,rfl,E,r⟩:=hrel;by_cases hlt:k<s.size
  .obtain⟨y,u⟩:=abB hlt;obtain⟨b,j⟩:=af (s[k]);have p:=qh j;have z:=qh (show s.data.toList.take (k+1)=s.data.toList.take k ++ [b] by rw[a5 y,u,j]);have m:=qh (show fO b=false->s.data.toList.all fO=false from λ h=>by
    rw[a6];intro e;rw[List.all_eq_true] at e;have:=e s.data.toList[k] (a7 y);rw[u,j,h] at this;cases this)
   clear u;by_cases h1:((s[k].toNat:Nat):Int)<48
   .have t:=qh (FB (m.o (by rw[<- p.o];unfold fO;simp;omega)));clear j;go_wp2;go_ret2;exact⟨dC t.o.symm,rfl⟩
   .by_cases h2:57<((s[k].toNat:Nat):Int)
    .have t:=qh (FB (m.o (by rw[<- p.o];unfold fO;simp;omega)));clear j;go_wp2;go_ret2;exact⟨dC t.o.symm,rfl⟩
    .have f:(s.data.toList.take (k+1)).all fO=true:=by
      rw[z.o,List.all_append,r.o.2,a4,<- p.o];unfold fO;simp;omega
     have g:v*10+(s[k].toNat - 48)=eu (s.data.toList.take (k+1)):=by rw[z.o,C9,<- r.o.1,<- p.o]
     have q:=IZ _ f;have o:eu (s.data.toList.take (k+1))<=1000000000000000:=by
      have:10 ^ (s.data.toList.take (k+1)).length<=10 ^ 15:=a8 (by omega) (by rw[List.length_take,d.o];omega);omega
     rw[<- g] at o;have A:=qh (And.intro g f);have D:48<=s[k].toNat:=by omega
     clear j f g q;go_wp2
     go_round
     case rel=>exact⟨k+1,v*10+(s[k].toNat - 48),by omega,by go_num,by first | go_num | (congr 1;omega),o,A⟩
     case measure=>simp[intOf];omega
  .have C:=qh (show uw s.data.toList = .tuple #[ae ak (v:Nat),an true] by
    have h:=r.o;rw[a9 (by rw[d.o];omega)] at h;rw[UU x.o (by rw[d.o];omega) h.2,h.1])
   go_wp2;go_ret2;exact⟨dC C.o.symm,rfl⟩
abbrev Tab (w:World):Prop:=Lib.TabIs Tryz.prog w "internal/strconv.uint64pow10" .u64 Lib.pow10Tab
theorem Tab.below {w w':World} (h:Tab w) (c:EG w w'):Tab w':=by
 unfold Tab Lib.TabIs World.var? at *;cases hg:Tryz.prog.globalNamed "internal/strconv.uint64pow10" with
 | none=>rw[hg] at h;cases h
 | some g =>
  rw[hg] at h;simp only[Option.bind_some] at h ⊢;have b:g<w.heap.size:=by
   rcases aE g w.heap.size with a | a
   .exact a
   .rw[aR a] at h;cases h
  rw[c.block g b];exact h
theorem zS (n:Int) (w:World) (c : -9223372036854775808<=n) (b:n<=9223372036854775807) (a:Tab w) :
  Calls Tryz.prog 28 #[ae ak n] w λ e w'=>(∃ t:ByteArray,e = ao (al t)/\t.data.toList=aD n)/\EG w w':=
 (Tryz.strconv_Itoa n c b w a).mono λ _ _ ⟨f,_,_,d⟩=>⟨⟨_,f,rfl⟩,d▸Lib.below_grow _ w (ap _) _ _⟩
def strLen (v:Value):Nat:=match v with
 | al t=>t.size
 | _=>0
theorem uy (n:Int) (W:Nat) (w:World) (v:0<=n) (u:n<=9223372036854775807) (z:W<=20) (a:Tab w) :
  Calls Tryz.prog 262 #[ae ak n,ae ak (W:Nat)] w λ e w'=>(∃ t:ByteArray,e = ao (al t)/\t.data.toList=oQ W n)/\EG w w':=by
 have q:=qh a;clear a;go_enter Tryz.func262,Tryz.ntmps262;go_wp2_with fail;refine (zS n w (by omega) u q.o).mono ?_;rintro e x ⟨⟨l,rfl,c⟩,h⟩;obtain⟨L,i⟩:=af ((aD n).length);have b:=qh c;have r:L<=20:=by
  obtain⟨m,rfl⟩:∃ m:Nat,n=m:=⟨n.toNat,by omega⟩;rw[lD] at i;have:=iD 18 m (by omega);omega
 have f:=qh i;clear c i;go_wp2_with (fail)
 go_loop [5] (λ s=>∃ (t:ByteArray) (k:Nat),s = al t/\Hid (t.data.toList=zeros k ++ aD n)/\k<=W - L) (λ s=>W - strLen s)
 case atStart=>exact⟨l,0,rfl,qh b.o,aA _⟩
 case round =>
  obtain⟨t,k,rfl,d,y⟩:=hrel;have j:t.size=k+L:=by
   have:t.data.toList.length=k+L:=by rw[d.o];simp[zeros,f.o]
   exact this
  have p:t.size<=k+L:=by omega
  have o:k+L<=t.size:=by omega
  clear j;by_cases hlt:t.size<W
  .go_wp2_with (fail)
   go_round
   case rel =>
    refine⟨⟨#[48]⟩ ++ t,k+1,rfl,qh ?_,by omega⟩;rw[fG,d.o,show zeros (k+1)=48 :: zeros k from rfl];rfl
   case measure =>
    have:(⟨#[48]⟩ ++ t:ByteArray).size=t.size+1:=by rw[ByteArray.size_append];show 1+t.size=_;omega
    simp[strLen,this];omega
  .have g:=qh (show t.data.toList=oQ W n by
    rw[d.o];unfold oQ;rw[f.o,show k=W - L by omega])
   clear d b f;go_wp2;go_ret;exact⟨⟨_,rfl,g.o⟩,h⟩
theorem NJ (t:ByteArray) (w:World) (h:t.size<=100) :
  Calls Tryz.prog 273 #[al t,al ⟨#[48]⟩] w λ e w'=>(∃ u:ByteArray,e = ao (al u)/\u.data.toList=aX t.data.toList 48)/\w=w':=
 (Tryz.strings_TrimRight_one t 48 (by decide) w (by omega)).mono λ _ _ ⟨b,a⟩=>⟨⟨_,b,rfl⟩,a.symm⟩
theorem FC (n:Int) (w:World) (h1 : -999999999999999<=n) (h2:n<=999999999999999) (c:Tab w) :
  Calls Tryz.prog 258 #[ae ak n] w λ e w'=>(∃ t:ByteArray,e = ao (al t)/\t.data.toList=qF n)/\EG w w':=by
 have J:=qh c;clear c;obtain⟨a,l⟩:=af (oC n);have r:0<=a/\a<=999999999999999:=by rw[<- l];unfold oC;split <;> omega
 obtain⟨W,O⟩:=r;obtain⟨F,hF⟩:=af (a / 10000);obtain⟨M,p⟩:=af (a % 10000);have N:0<=F:=by omega
 have L:F<=99999999999:=by omega
 have z:0<=M:=by omega
 have P:M<10000:=by omega
 have D:=qh (show qF n=(if n<0 then [45] else []) ++ aD F ++ (if jq M = [] then [] else 46 :: jq M) by unfold qF;rw[l,hF,p]);have V:=qh (show (aD F).length<=11 by
  obtain⟨m,rfl⟩:∃ m:Nat,F=m:=⟨F.toNat,by omega⟩;rw[lD];exact iD 10 m (by omega))
 have i:=qh (show (oQ 4 M).length=4/\(jq M).length<=4 by
  obtain⟨m,rfl⟩:∃ m:Nat,M=m:=⟨M.toNat,by omega⟩;exact⟨tZ (iD 3 m (by omega)),(NI (by omega)).2⟩)
 have I:=qh l;have C:=qh hF;have x:=qh p;clear l hF p;go_enter Tryz.func258,Tryz.ntmps258
 go_upto_if 7 with (fail)
 go_cut [0,3] (λ v s Q=>v = ae ak a/\(∃ o:ByteArray,s = al o/\Hid (o.data.toList=if n<0 then [45] else [])/\o.size<=1)/\Q=w)
 case first =>
  by_cases hn:n<0
  .have y:=qh (show a = -n by rw[<- I.o];unfold oC;rw[if_pos hn]);go_wp2_with (fail)
   go_meet
   exact⟨by rw[y.o],⟨_,rfl,qh (by rw[if_pos (by omega)]),by decide⟩,rfl⟩
  .have y:=qh (show a=n by rw[<- I.o];unfold oC;rw[if_neg hn]);go_wp2_with (fail)
   go_meet
   exact⟨by rw[y.o],⟨_,rfl,qh (by rw[if_neg (by omega)]),by decide⟩,rfl⟩
 case rest =>
 obtain⟨rfl,⟨o,rfl,E,S⟩,rfl⟩:=hcut;have eF:a / 10000=F:=C.o;have eM:a % 10000=M:=x.o;go_wp2_with fail;refine (zS F _ (by omega) (by omega) J.o).mono ?_;rintro e T ⟨⟨Y,rfl,d⟩,b⟩;have X:Y.size<=11:=by rw[oG d];exact V.o
 have H:=qh d;have B:=qh (J.o.below b);clear d;go_wp2_with fail;refine (uy M 4 T z (by omega) (by omega) B.o).mono ?_;rintro e R ⟨⟨G,rfl,g⟩,h⟩;have K:G.size<=4:=by rw[oG g,i.o.1];exact ap _
 have U:=qh g;have j:=b.trans (h.mono b.size);clear g b h;go_wp2_with fail;refine (NJ G R (by omega)).mono ?_;rintro e Z ⟨⟨u,rfl,k⟩,rfl⟩;rw[U.o] at k;have zT:u.size<=4:=by rw[oG k];exact i.o.2
 have A:=qh (show u.data.toList=jq M from k);clear k;by_cases h0:u=⟨#[]⟩
 .have q:=qh (show jq M = [] by rw[<- A.o,h0]);subst h0;go_wp2;go_ret;exact⟨⟨_,rfl,by rw[D.o,fG,E.o,H.o,if_pos q.o,List.append_nil]⟩,j⟩
 .have f:u.data.toList≠[]:=λ e=>h0 (vG e);have se:u.toList.isEmpty=false:=by rw[aM];simpa using f
  have q:=qh (show jq M≠[] by rw[<- A.o];exact f);clear f h0;go_wp2;go_ret;exact⟨⟨_,rfl,by rw[D.o,fG,fG,fG,E.o,H.o,if_neg q.o,A.o];simp⟩,j⟩
def Mx (w:World):Prop:=∃ m,w.cell? ⟨1,0,none⟩=some (ae ak m)
theorem Mx.below {w w':World} (h:Mx w) (a:EG w w'):Mx w':=by
 obtain⟨m,b⟩:=h;exact⟨m,Below.cell_of a b⟩
theorem JV (s p:ByteArray) (w:World) :
  Calls Tryz.prog 337 #[al s,al p] w λ e w'=>(∃ t:ByteArray,e = ao (al t)/\t.data.toList=ba s.data.toList p.data.toList)/\w=w':=
 (Tryz.strings_TrimPrefix s p w).mono λ _ _ ⟨b,a⟩=>⟨⟨_,b,rfl⟩,a.symm⟩
theorem abC (s:ByteArray) (c:UInt8) (w:World) (i:s.size<=2000000) (d:Mx w) :
  Calls Tryz.prog 60 #[al s,al ⟨#[c]⟩] w λ e w'=>(∃ a b:ByteArray,∃ f:Bool,e = ao (.tuple #[al a,al b,an f])/\a.data.toList=(aL s.data.toList [c]).1/\b.data.toList=(aL s.data.toList [c]).2.1)/\EG w w':=by
 obtain⟨m,d⟩:=d;exact (Tryz.strings_Cut s ⟨#[c]⟩ m w (by omega) d).mono λ _ _ ⟨h,k,g⟩=>⟨⟨_,_,_,h,rfl,rfl⟩,g▸(Below.refl _ _).drewN k⟩
theorem I7 (s:ByteArray) (c:UInt8) (w:World) (f:s.size<=2000000) (a:Mx w) :
  Calls Tryz.prog 338 #[al s,al ⟨#[c]⟩] w λ e w'=>∃ ps:List ByteArray,e = ao (am (some ⟨w.heap.size,0,none⟩) ps.length ps.length)/\w'=w.alloc (.cells (ps.map ax).toArray 9)/\ps.map (·.data.toList)=Lib.split s.data.toList [c]/\ps.length<=s.size+1:=by
 obtain⟨m,a⟩:=a;refine (Tryz.strings_Split s ⟨#[c]⟩ m w (by omega) a (ap 1)).mono λ _ _ ⟨d,b⟩=>⟨Lib.splitB ⟨#[c]⟩ 0 (Lib.countB s ⟨#[c]⟩) s,?_,b,Lib.splitB_data _ _ _ _,?_⟩
 .rw[d,bb ⟨#[c]⟩ (ap 1) 0 _ s rfl]
 .rw[bb ⟨#[c]⟩ (ap 1) 0 _ s rfl];have:=bc ⟨#[c]⟩ (ap 1) s.size s (ap _);omega
theorem kJ (l:List UInt8):∃ (a:Nat) (b:Bool),dF l=(a,b)/\uw l = .tuple #[ae ak (a:Nat),an b]/\a<=1000000000000000:=by
 have d:(dF l).1<=1000000000000000:=by
  unfold dF;split
  .exact aA _
  .rename_i h;split
   .rename_i c;have:=IZ l c;have:10 ^ l.length<=10 ^ 15:=a8 (by omega) (by simp only[not_or] at h;omega);show eu l<=_;omega
   .exact aA _
 exact⟨_,_,rfl,rfl,d⟩
def JW (k:Int) (o:Option Int):Value:=match o with
 | some n=>.tuple #[.agg #[ae ak k,ae ak n,al ⟨#[]⟩,am none 0 0],an true]
 | none=>.tuple #[.agg #[ae ak 0,ae ak 0,al ⟨#[]⟩,am none 0 0],an false]
theorem FD (s:ByteArray) (w:World) (hs:s.size<=2000000) (Z:Mx w) :
  CS 335 #[al s] w (JW 2 (jF s.data.toList)):=by
 have HM:=qh Z;clear Z;go_enter Tryz.func335,Tryz.ntmps335;go_wp2_with fail;obtain⟨W,D⟩:=aH ((w.alloc (.cells #[ae ak 0,ae ak 0,al ⟨#[]⟩,am none 0 0] 65 (0,0))));have i:EG w W:=by rw[D];exact ((Below.refl _ w).alloc (ap _) _)
 have B0:ag W (w.heap.size) 65 #[ae ak 0,ae ak 0,al ⟨#[]⟩,am none 0 0]:=by
  rw[D];have:=ag.new w 65 #[ae ak 0,ae ak 0,al ⟨#[]⟩,am none 0 0];exact this
 have u:W.heap.size=w.heap.size+1:=by rw[D];simp
 rw[<- D];clear D u;refine (JV s ⟨#[45]⟩ W).mono ?_;rintro e O ⟨⟨d,rfl,S⟩,rfl⟩;have ab:d.size<=s.size:=by rw[oG S];exact Lib.trimPrefix_le _ _
 have Y:=qh S;clear S;go_wp2_with fail;refine (abC d 46 W (by omega) (HM.o.below i)).mono ?_;rintro e O ⟨⟨fr,K,fd,rfl,I,A⟩,z⟩;have N:K.size<=d.size:=by
  rw[oG A];unfold aL;split
  .simp only[List.length_drop];show _<=d.data.toList.length;omega
  .simp
 obtain⟨L,hL⟩:=af (K.size);have E:=qh I;have X:=qh A;have B0:=B0.below z B0.lt;have i:=i.trans (z.mono i.size);have T:=qh hL;have aa:L<=2000000:=by omega
 clear I A z hL N;go_wp2_with (fail)
 go_loop [6] (λ v=>∃ (t:ByteArray) (k:Nat),v = al t/\Hid (t.data.toList=K.data.toList ++ zeros k)/\k<=4 - L) (λ v=>4 - strLen v)
 case atStart=>exact⟨K,0,rfl,qh (by simp[zeros]),aA _⟩
 case round =>
  obtain⟨t,k,rfl,M,hk⟩:=hrel;have u:t.size=L+k:=by
   have:t.data.toList.length=L+k:=by rw[M.o,<- T.o];simp[zeros]
   exact this
  have P:t.size<=L+k:=by omega
  have U:L+k<=t.size:=by omega
  clear u;by_cases hlt:t.size<4
  .go_wp2_with (fail)
   go_round
   case rel =>
    refine⟨t ++ ⟨#[48]⟩,k+1,rfl,qh ?_,by omega⟩;rw[fG,M.o,List.append_assoc];unfold zeros;rw[List.replicate_succ']
   case measure =>
    have:(t ++ ⟨#[48]⟩:ByteArray).size=t.size+1:=by rw[ByteArray.size_append];rfl
    simp[strLen,this];omega
  .have HP:=qh (show t.data.toList=XD (aL d.data.toList [46]).2.1 4 by
    rw[M.o,X.o];unfold XD;rw[<- oG X.o,T.o,show k=4 - L by omega])
   clear M;obtain⟨a,y,r,G,ha⟩:=kJ fr.data.toList;obtain⟨b,p,q,H,hb⟩:=kJ t.data.toList;have Q:=qh (r);have R:=qh (q);have B:=qh G;have C:=qh H;have V:=qh (show jF s.data.toList=if y=true/\p=true/\t.size<=4/\a<=99999999999 then
     some (if d.size<s.size then -((a*10000+b:Nat):Int) else ((a*10000+b:Nat):Int)) else none by
    unfold jF;simp only[];rw[<- show d.data.toList=ba s.data.toList [45] from Y.o,<- HP.o,<- E.o,r,q];rfl)
   clear r q G H Y E X HP T P U hk;go_wp2_with fail;refine (nS fr O).mono ?_;rw[B.o];rintro e w2 ⟨rfl,rfl⟩;go_wp2_with fail;refine (nS t O).mono ?_;rw[C.o];rintro e w2 ⟨rfl,rfl⟩;clear B C Q R;obtain⟨dM,jY,eQ,jZ,gW,oH,gX,oI⟩:=ag.z4 B0;by_cases hcond:y=true/\p=true/\t.size<=4/\a<=99999999999
   .obtain⟨rfl,rfl,J,x⟩:=hcond;by_cases hneg:d.size<s.size
    .have o:=qh (show JW 2 (jF s.data.toList) = .tuple #[.agg #[ae ak 2,ae ak (-((a:Int)*10000+b)),al ⟨#[]⟩,am none 0 0],an true] by
      rw[V.o,if_pos ⟨rfl,rfl,J,x⟩,if_pos hneg];show bd #[.agg #[ae ak 2,ae ak (-((a*10000+b:Nat):Int)),_,_],_]=_;rw[show ((a*10000+b:Nat):Int)=(a:Int)*10000+b by omega])
     go_wp2;obtain⟨F,j,n,l⟩:=dU B0 i (ae ak 2) (ae ak (-((a:Int)*10000+b))) (al ⟨#[]⟩) (am none 0 0);rw[<- j];clear j;obtain⟨m,c,f,g⟩:=ag.c4 n;refine bodyPost_ret (v:=.tuple #[.agg #[ae ak 2,ae ak (-((a:Int)*10000+b)),al ⟨#[]⟩,am none 0 0],an true]) (by simp[results,Tryz.results335,go_sem,m,c,f,g]) rfl ⟨dC o.o.symm,l⟩
    .have o:=qh (show JW 2 (jF s.data.toList) = .tuple #[.agg #[ae ak 2,ae ak ((a:Int)*10000+b),al ⟨#[]⟩,am none 0 0],an true] by
      rw[V.o,if_pos ⟨rfl,rfl,J,x⟩,if_neg hneg];show bd #[.agg #[ae ak 2,ae ak ((a*10000+b:Nat):Int),_,_],_]=_;rw[show ((a*10000+b:Nat):Int)=(a:Int)*10000+b by omega])
     go_wp2;obtain⟨F,j,n,l⟩:=dU B0 i (ae ak 2) (ae ak ((a:Int)*10000+b)) (al ⟨#[]⟩) (am none 0 0);rw[<- j];clear j;obtain⟨m,c,f,g⟩:=ag.c4 n;refine bodyPost_ret (v:=.tuple #[.agg #[ae ak 2,ae ak ((a:Int)*10000+b),al ⟨#[]⟩,am none 0 0],an true]) (by simp[results,Tryz.results335,go_sem,m,c,f,g]) rfl ⟨dC o.o.symm,l⟩
   .have o:=qh (show JW 2 (jF s.data.toList) = .tuple #[.agg #[ae ak 0,ae ak 0,al ⟨#[]⟩,am none 0 0],an false] by rw[V.o,if_neg hcond];rfl);rcases y with _ | _
    .clear hcond;go_wp2;obtain⟨F,j,n,l⟩:=dU B0 i (ae ak 0) (ae ak 0) (al ⟨#[]⟩) (am none 0 0);rw[<- j];clear j;obtain⟨m,c,f,g⟩:=ag.c4 n;refine bodyPost_ret (v:=.tuple #[.agg #[ae ak 0,ae ak 0,al ⟨#[]⟩,am none 0 0],an false]) (by simp[results,Tryz.results335,go_sem,m,c,f,g]) rfl ⟨dC o.o.symm,l⟩
    rcases p with _ | _
    .clear hcond;go_wp2;obtain⟨F,j,n,l⟩:=dU B0 i (ae ak 0) (ae ak 0) (al ⟨#[]⟩) (am none 0 0);rw[<- j];clear j;obtain⟨m,c,f,g⟩:=ag.c4 n;refine bodyPost_ret (v:=.tuple #[.agg #[ae ak 0,ae ak 0,al ⟨#[]⟩,am none 0 0],an false]) (by simp[results,Tryz.results335,go_sem,m,c,f,g]) rfl ⟨dC o.o.symm,l⟩
    by_cases J:t.size<=4
    .have x:99999999999<a:=by
      rcases aE 99999999999 a with h | h
      .exact h
      .exact absurd ⟨rfl,rfl,J,h⟩ hcond
     clear hcond;go_wp2;obtain⟨F,j,n,l⟩:=dU B0 i (ae ak 0) (ae ak 0) (al ⟨#[]⟩) (am none 0 0);rw[<- j];clear j;obtain⟨m,c,f,g⟩:=ag.c4 n;refine bodyPost_ret (v:=.tuple #[.agg #[ae ak 0,ae ak 0,al ⟨#[]⟩,am none 0 0],an false]) (by simp[results,Tryz.results335,go_sem,m,c,f,g]) rfl ⟨dC o.o.symm,l⟩
    .clear hcond;go_wp2;obtain⟨F,j,n,l⟩:=dU B0 i (ae ak 0) (ae ak 0) (al ⟨#[]⟩) (am none 0 0);rw[<- j];clear j;obtain⟨m,c,f,g⟩:=ag.c4 n;refine bodyPost_ret (v:=.tuple #[.agg #[ae ak 0,ae ak 0,al ⟨#[]⟩,am none 0 0],an false]) (by simp[results,Tryz.results335,go_sem,m,c,f,g]) rfl ⟨dC o.o.symm,l⟩
theorem ag5:(Tryz.prog.info? 9).map (λ i=>(i.zero,i.size,i.bytes))=some (some (.string ByteArray.empty),1,16):=by kernel_rfl
theorem Yb {w:World} {B' n:Nat} {v:Value} {a:List ByteArray} (h:w.ownsRow B' 9 1 v n (a.map ax)):n=a.length/\((v = am none 0 0/\a = [])\/∃ g c,v = am (some ⟨g,0,none⟩) a.length c/\g<w.heap.size/\a.length<=c/\∀ j x,a[j]?=some x->w.cell? ⟨g,0+j,none⟩=some (al x)):=by
 obtain⟨m,o⟩:=id h;have f:n=a.length:=by simp at m;omega
 subst f;refine⟨rfl,?_⟩;rcases o with ⟨rfl,l⟩ | ⟨g,d,i,rfl,p,e,e3,r,q⟩
 .exact .inl ⟨rfl,List.eq_nil_of_length_eq_zero l⟩
 .refine .inr ⟨g,d,rfl,?_,e3,λ j x k=>?_⟩
  .rcases aE g w.heap.size with b | b
   .exact b
   .rw[aR b] at e;cases e
  .have:=h.cells (g:=g) rfl j (al x) (by simp[k])
   rwa [Addr.add_lit] at this
theorem NK {B' n:Nat} {v:Value} (f:List ByteArray) (a:ByteArray) (w:World) (h:w.ownsRow B' 9 1 v n (f.map ax)) (l:f.length<=140737488355328)
  (d:(ay (f.map (·.data.toList)) a.data.toList).length<=140737488355328) :
  Calls Tryz.prog 264 #[v,al a] w λ e w'=>(∃ t:ByteArray,e = ao (al t)/\t.data.toList=ay (f.map (·.data.toList)) a.data.toList)/\EG w w':=by
 obtain⟨rfl,⟨rfl,rfl⟩ | ⟨g,c,rfl,o,j,b⟩⟩:=Yb h
 .exact (Tryz.strings_Join_none none 0 a w).mono λ _ _ ⟨i,m⟩=>⟨⟨_,i,rfl⟩,m▸Below.refl _ _⟩
 .exact (Tryz.strings_Join g 0 c f a w b o l j d).mono λ _ _ ⟨i,k⟩=>⟨⟨_,i,rfl⟩,k⟩
def yt (l:List Int):List ByteArray:=l.map λ c=>⟨(iG c).toArray⟩
theorem FH (l:List Int):(yt l).map (·.data.toList)=l.map iG:=by simp[yt]
theorem NM {c:Int} (h:1<=c/\c<=999):(iG c).length<=4:=by
 rw[sF (by omega),aq];have:=iD 2 c.toNat (by omega);omega
theorem Ci:∀ (l:List Int),(∀ c∈l,1<=c/\c<=999)->(ay (l.map iG) [44]).length<=5*l.length
 | [],_=>by simp[Lib.join_nil]
 | [c],h=>by
  rw[aZ,List.map_nil,Lib.join_one];have:=NM (h c (a0 ..));simp;omega
 | c :: d :: r,h=>by
  have e:ay ((c :: d :: r).map iG) [44]=iG c ++ 44 :: ay ((d :: r).map iG) [44]:=by
   simp only[aZ];rw[be,be];simp[Lib.joinTail]
  have:=Ci (d :: r) (λ x a=>h x (bf _ a));have:=NM (h c (a0 ..));rw[e];simp only[av,aq] at *;omega
theorem NP (A:Option Addr) (l:List Int) (c B1:Nat) (w:World) (hl:l.length<=1000) (N:∀ c∈l,1<=c/\c<=999) (s:Reads w B1 1 A l.length (bF ak l)) (M:B1<=w.heap.size) (p:Tab w) :
  Calls Tryz.prog 260 #[am A l.length c] w λ e w'=>(∃ t:ByteArray,e = ao (al t)/\t.data.toList=zF l)/\EG w w':=by
 have HT:=qh p;have HX:=qh (s.more M);have P:=qh N;clear p s N;obtain⟨R,I,G,K,H⟩:=info_parts ag5;go_enter Tryz.func260,Tryz.ntmps260;go_wp2;go_loopw [3,8] (λ v i wr=>∃ k:Nat,k<=l.length/\i = ae ak k/\wr.ownsRow w.heap.size 9 1 v k ((yt (l.take k)).map ax)/\EG w wr) (λ _ i _=>l.length - (intOf i).toNat)
 case atStart=>exact⟨0,aA _,rfl,World.ownsRow_nil _ _ _ _,Below.refl _ _⟩
 case round =>
  obtain⟨k,hk,rfl,o,d⟩:=hrel;have y:=qh o;clear o;have Q:=d.size;by_cases hlt:k<l.length
  .obtain⟨ad,u,rfl,hb,B,n⟩:=(HX.o.below d).at_ hlt;obtain⟨D,rfl⟩:=kD _ _ _ _ B;obtain⟨x,s⟩:=af (l[k]);have z:=P.o l[k] (a7 D);rw[s] at z n;obtain⟨W,Y⟩:=z;have S:=qh s;have L:=qh (HT.o.below d);clear B s;go_wp2_with fail;refine (zS x wr (by omega) (by omega) L.o).mono ?_;rintro e O ⟨⟨t,rfl,r⟩,b⟩;have F:=qh r;have a:=own_below y.o b;have E:=d.trans (b.mono Q);have X:=E.size;have J:t.size<=20:=by
    rw[oG r];obtain⟨m,rfl⟩:∃ m:Nat,x=m:=⟨x.toNat,by omega⟩;rw[lD];have:=iD 2 m (by omega);omega
   have T:=qh (show (yt (l.take (k+1))).map ax=(yt (l.take k)).map ax ++ [al (⟨#[35]⟩ ++ t)] by
    rw[a5 D,S.o];unfold yt;rw[bg,bg];congr 1;show [ax _]=_;rw[vG (show (⟨#[35]⟩ ++ t:ByteArray).data.toList=iG x by rw[fG,F.o];rfl)])
   clear r n y b;go_wp2_with (at_builtin;refine wpList_append_own _ rfl _ _ 22 rfl w.heap.size 9 R (.string ByteArray.empty) 1 16 Tryz.underlying22 I G K H rfl (by decide) _ _ _ rfl (a.alloc _) ⟨O.heap.size,0,none⟩ 1 1 [.string (⟨#[35]⟩ ++ t)] rfl rfl ?c1 ?c2 ?c3 ?c4 ?c5 ?_)
   case c1=>intro j u hj;cases j <;> simp_all[go_sem]
   case c2=>intro u B;simp only[List.mem_singleton] at B;subst B;rfl
   case c3=>unfold maxLen;omega
   case c4=>omega
   case c5=>simp;omega
   intro V w3 f C _;have q:EG w w3:=(E.alloc (by omega) _).grown C (by simp;omega) (λ g hg=>(a.lt g hg).1);have y:=qh (show w3.ownsRow w.heap.size 9 1 V (k+1) ((yt (l.take (k+1))).map ax) by rw[T.o];exact f);clear f C a;go_wp2;go_roundw
   case rel=>exact⟨k+1,by omega,by go_num,y.o,q⟩
   case measure=>simp[intOf];omega
  .have Z:=qh (show wr.ownsRow w.heap.size 9 1 _ k ((yt l).map ax) by
    have h:=y.o
    rwa [a9 (by omega)] at h)
   have U:=Ci l P.o;clear y;go_wp2_with fail;refine (NK (yt l) ⟨#[44]⟩ wr Z.o (by unfold yt;simp;omega) (by rw[FH];show (ay _ [44]).length<=_;omega)).mono ?_;rintro e O ⟨⟨t,rfl,r⟩,b⟩;rw[FH] at r;have F:=qh (show t.data.toList=ay (l.map iG) [44] from r);have J:t.size<=5000:=by rw[oG F.o];omega
   have q:=d.trans (b.mono Q);clear r;go_wp2;go_ret;exact⟨⟨_,rfl,by rw[fG,fG,F.o];rfl⟩,q⟩
end Go.Proofs.YtcnagconagpkcaaGreatDoor
namespace Go.Proofs.YtcnagconagpkcaaGreatDoor
open Go.RowKit
theorem Yc {a b c d e c':Int} (g:a=d) (h:b=e) (f:c=c'):Ending.returned (.tuple #[ae ak a,ae ak b,ae ak c]) = ao (.tuple #[ae ak d,ae ak e,ae ak c']):=by rw[g,h,f]
theorem Yd (y:Int) (w:World) (b:0<=y) (a:y<=10000) :
  He 311 #[ae ak y] w (an (Cal.lp y)):=by
 go_enter Tryz.func311,Tryz.ntmps311;go_wp2
 all_goals (go_ret;exact⟨aj (by simp_all[Cal.lp,Bool.beq_eq_decide_eq]),rfl⟩)
theorem uz (y m:Int) (w:World) (b:0<=y) (a:y<=10000) :
  He 301 #[ae ak y,ae ak m] w (ae ak (Cal.MW y m)):=by
 go_enter Tryz.func301,Tryz.ntmps301;go_wp2_with (go_at_call 311;refine (Yd _ _ b a).mono ?_;rintro e w' ⟨rfl,rfl⟩)
 all_goals (go_ret;exact⟨ai (by simp_all[Cal.MW]),rfl⟩)
theorem nU (y m d:Int) (w:World) (b:1600<=y) (f:y<=2400) (p:1<=m) (h:m<=12) (q:0<=d) (l:d<=40) :
  He 275 #[ae ak y,ae ak m,ae ak d] w (ae ak (Cal.num y m d)):=by
 have n:=Cal.Sm y b f;go_enter Tryz.func275,Tryz.ntmps275;go_wp2
 go_loop [9,8] (λ k s=>∃ j:Int,1<=j/\j<=m/\k = ae ak j/\s = ae ak (Cal.base y+Cal.EL y j)) (λ k _=>(m - intOf k).toNat)
 case atStart=>exact⟨1,by omega,by omega,rfl,by rw[Cal.D9];unfold Cal.base;simp⟩
 case round =>
  obtain⟨j,a,c,rfl,rfl⟩:=hrel;have o:=Cal.Qa y j;have i:=Cal.EN y j;by_cases hlt:j<m
  .have cs:=Cal.ni y j a (by omega);have g:=qh cs;clear cs;go_wp2_with (go_at_call 301;refine (uz _ _ _ (by omega) (by omega)).mono ?_;rintro e w' ⟨rfl,rfl⟩)
   go_round
   case rel=>exact⟨j+1,by omega,by omega,rfl,by rw[g.o,Int.add_assoc]⟩
   case measure=>simp[intOf];omega
  .obtain rfl:j=m:=by omega
   go_wp2;go_ret;exact⟨ai (by unfold Cal.num;rfl),rfl⟩
theorem Qu (y m d:Int) (b:1600<=y) (a:y<=2400) (e:0<=d) (c:d<=40) : -200000<=Cal.num y m d/\Cal.num y m d<=200000:=by
 have:=Cal.Sm y b a;have:=Cal.Qa y m;unfold Cal.num;omega
theorem SK (y m:Int):Cal.num y m 1=Cal.base y+Cal.EL y m:=by unfold Cal.num;omega
theorem adY (y:Int):Cal.num y 1 1=Cal.base y:=by unfold Cal.num;rw[Cal.D9];omega
theorem UX (n:Int) (w:World) (A : -25567<=n) (C:n<=84005) :
  He 261 #[ae ak n] w (.tuple #[ae ak (Cal.cy n),ae ak (Cal.cm n),ae ak (Cal.cd n)]):=by
 obtain⟨l,s,i⟩:=Cal.XA A C;have c:∀ g:Int,Cal.base g<=n->1899<=g->g<=2199->Cal.IE n=g->He 261 #[ae ak n] w (.tuple #[ae ak (Cal.cy n),ae ak (Cal.cm n),ae ak (Cal.cd n)]):=by
  intro g l s i x;have j:=Cal.abn A C;obtain⟨Z,T,Y,X⟩:=j;have K:=qh x;clear x;by_cases hn:n<0
  all_goals
   have v:=qh K.o;unfold Cal.IE at v;go_enter Tryz.func261,Tryz.ntmps261;go_wp2
   go_loop [2] (λ t=>∃ y:Int,Cal.base y<=n/\1899<=y/\y<=2199/\t = ae ak y) (λ t=>(2200 - intOf t).toNat)
   case atStart =>
    refine⟨g,l,s,i,?_⟩;rw[<- v.o]
    first | rw[if_pos hn] | rw[if_neg (by omega)]
   case round =>
    obtain⟨y,V,U,W,rfl⟩:=hrel;have b:=adY (y+1);have k:=Qu (y+1) 1 1 (by omega) (by omega) (by omega) (by omega);obtain⟨J,N⟩:=k;by_cases hc:Cal.base (y+1)<=n
    .have q:Cal.num (y+1) 1 1<=n:=by omega
     have G:y+1<=2199:=by
      by_cases h:y+1<=2199
      .exact h
      .have:=Cal.xB;have:=Cal.mg (show 2200<=y+1 by omega);omega
     clear b;go_wp2_with (go_at_call 275;refine (nU _ _ _ _ (by omega) (by omega) (by omega) (by omega) (by omega) (by omega)).mono ?_;rintro e w' ⟨rfl,rfl⟩)
     go_round
     case rel=>exact⟨y+1,hc,by omega,G,rfl⟩
     case measure=>simp[intOf];omega
    .have q:n<Cal.num (y+1) 1 1:=by omega
     have L:=Cal.Bz y;have R:n<Cal.base y+Cal.yd y:=by omega
     clear b L hc;go_wp2_with (go_at_call 275;refine (nU _ _ _ _ (by omega) (by omega) (by omega) (by omega) (by omega) (by omega)).mono ?_;rintro e w' ⟨rfl,rfl⟩)
     go_loop [3] (λ t=>∃ m:Int,1<=m/\m<=12/\t = ae ak m/\Cal.base y+Cal.EL y m<=n) (λ t=>(12 - intOf t).toNat)
     case atStart=>exact⟨1,by omega,by omega,rfl,by rw[Cal.D9];omega⟩
     case round =>
      obtain⟨m,z,u,rfl,O⟩:=hrel;have B:=SK y (m+1);have k:=Qu y (m+1) 1 (by omega) (by omega) (by omega) (by omega);obtain⟨M,I⟩:=k;have p:=Qu y m 1 (by omega) (by omega) (by omega) (by omega);obtain⟨D,F⟩:=p;by_cases hd:m<12/\Cal.base y+Cal.EL y (m+1)<=n
      .obtain⟨Q,r⟩:=hd;have H:Cal.num y (m+1) 1<=n:=by omega
       clear B;go_wp2_with (go_at_call 275;refine (nU _ _ _ _ (by omega) (by omega) (by omega) (by omega) (by omega) (by omega)).mono ?_;rintro e w' ⟨rfl,rfl⟩)
       go_round
       case rel=>exact⟨m+1,by omega,by omega,rfl,r⟩
       case measure=>simp[intOf];omega
      .have E:n<Cal.base y+Cal.EL y m+Cal.MW y m:=by
        by_cases h12:m=12
        .have:=Cal.ni y 12 (by omega) (by omega);have S:=Cal.P7 y;subst h12;simp only[show (12:Int)+1=13 from rfl] at *;omega
        .have:=Cal.ni y m z u;omega
       have a:=Cal.EP O E z u;have d:=SK y m;have o:Hid (Cal.cy n=y/\Cal.cm n=m/\Cal.cd n=n - Cal.num y m 1+1):=⟨a.cy,a.cm,by rw[a.cd,d]⟩;have f:m<12->n<Cal.num y (m+1) 1:=λ h=>by omega
       clear hd B d a;by_cases h12:m<12
       all_goals
        first | have P:=f h12 | skip
        clear f;go_wp2_with (go_at_call 275;refine (nU _ _ _ _ (by omega) (by omega) (by omega) (by omega) (by omega) (by omega)).mono ?_;rintro e w' ⟨rfl,rfl⟩)
        go_ret3
        exact⟨Yc o.o.1.symm o.o.2.1.symm o.o.2.2.symm,rfl⟩
 exact c _ l s i rfl
theorem NQ (n:Int) (w:World) (a : -25567<=n) (b:n<=84005) :
  CS 343 #[ae ak n] w (.agg #[ae ak 6,ae ak n,al ⟨#[]⟩,am none 0 0]):=by
 have b1:bu n (-25567) 84005=false:=pW (by omega) (by omega);go_enter Tryz.func343,Tryz.ntmps343;go_wp2_with (go_at_call 121;refine (bD _ _ _ _).mono ?_;rintro e w' ⟨rfl,rfl⟩);refine bodyPost_ret (v:=.agg #[ae ak 6,ae ak n,al ⟨#[]⟩,am none 0 0]) (by simp[results,Tryz.results343,go_sem]) rfl ⟨rfl,by first | exact (Below.refl _ _).alloc (ap _) _ | exact (((Below.refl _ _).alloc (ap _) _).setCell (ap _) _)⟩
theorem JX (n:Int) (w:World) (h:n < -25567\/84005<n) :
  CS 343 #[ae ak n] w (.agg #[ae ak 0,ae ak 0,al ⟨#[]⟩,am none 0 0]):=by
 have b1:bu n (-25567) 84005=true:=pR (by omega);clear h;go_enter Tryz.func343,Tryz.ntmps343;go_wp2_with (go_at_call 121;refine (bD _ _ _ _).mono ?_;rintro e w' ⟨rfl,rfl⟩);refine bodyPost_ret (v:=.agg #[ae ak 0,ae ak 0,al ⟨#[]⟩,am none 0 0]) (by simp[results,Tryz.results343,go_sem]) rfl ⟨rfl,by first | exact (Below.refl _ _).alloc (ap _) _ | exact (((Below.refl _ _).alloc (ap _) _).setCell (ap _) _)⟩
def dk (y m d:Int):Int:=if Cal.lT y m d=true then 6 else 0
def dn (y m d:Int):Int:=if Cal.lT y m d=true then Cal.num y m d else 0
theorem Cj {y m d:Int} (h:bu y 1800 2300=true\/bu m 1 12=true\/bu d 1 (Cal.MW y m)=true):Cal.lT y m d=false:=by
 rw[a6];intro e;rw[Cal.tX] at e;simp only[bu,Bool.or_eq_true,decide_eq_true_eq] at h;omega
theorem Ye (y m d:Int) (w:World) :
  CS 339 #[ae ak y,ae ak m,ae ak d] w (.agg #[ae ak (dk y m d),ae ak (dn y m d),al ⟨#[]⟩,am none 0 0]):=by
 have a:Cal.lT y m d=false->dk y m d=0/\dn y m d=0:=λ h=>by simp[dk,dn,h]
 by_cases e1:bu y 1800 2300=true
 .obtain⟨f,c⟩:=a (Cj (.inl e1));rw[f,c];clear f c a;go_enter Tryz.func339,Tryz.ntmps339;go_wp2_with (go_at_call 121;refine (bD _ _ _ _).mono ?_;rintro e w' ⟨rfl,rfl⟩);refine bodyPost_ret (v:=.agg #[ae ak 0,ae ak 0,al ⟨#[]⟩,am none 0 0]) (by simp[results,Tryz.results339,go_sem]) rfl ⟨rfl,by first | exact (Below.refl _ _).alloc (ap _) _ | exact (((Below.refl _ _).alloc (ap _) _).setCell (ap _) _)⟩
 have o:bu y 1800 2300=false:=by simpa using e1
 clear e1;by_cases e2:bu m 1 12=true
 .obtain⟨f,c⟩:=a (Cj (.inr (.inl e2)));rw[f,c];clear f c a;go_enter Tryz.func339,Tryz.ntmps339;go_wp2_with (go_at_call 121;refine (bD _ _ _ _).mono ?_;rintro e w' ⟨rfl,rfl⟩);refine bodyPost_ret (v:=.agg #[ae ak 0,ae ak 0,al ⟨#[]⟩,am none 0 0]) (by simp[results,Tryz.results339,go_sem]) rfl ⟨rfl,by first | exact (Below.refl _ _).alloc (ap _) _ | exact (((Below.refl _ _).alloc (ap _) _).setCell (ap _) _)⟩
 have n:bu m 1 12=false:=by simpa using e2
 clear e2;have C:1800<=y/\y<=2300:=by simp only[bu,a1,decide_eq_false_iff_not] at o;omega
 have D:1<=m/\m<=12:=by simp only[bu,a1,decide_eq_false_iff_not] at n;omega
 obtain⟨E,F⟩:=C;obtain⟨u,r⟩:=D;by_cases e3:bu d 1 (Cal.MW y m)=true
 .obtain⟨f,c⟩:=a (Cj (.inr (.inr e3)));rw[f,c];clear f c a;go_enter Tryz.func339,Tryz.ntmps339;go_wp2_with (first | (go_at_call 121;refine (bD _ _ _ _).mono ?_;rintro e w' ⟨rfl,rfl⟩) | (go_at_call 301;refine (uz _ _ _ (by omega) (by omega)).mono ?_;rintro e w' ⟨rfl,rfl⟩));refine bodyPost_ret (v:=.agg #[ae ak 0,ae ak 0,al ⟨#[]⟩,am none 0 0]) (by simp[results,Tryz.results339,go_sem]) rfl ⟨rfl,by first | exact (Below.refl _ _).alloc (ap _) _ | exact (((Below.refl _ _).alloc (ap _) _).setCell (ap _) _)⟩
 have q:bu d 1 (Cal.MW y m)=false:=by simpa using e3
 clear e3;have B:1<=d/\d<=Cal.MW y m:=by simp only[bu,a1,decide_eq_false_iff_not] at q;omega
 have p:=Cal.EN y m;obtain⟨s,t⟩:=B;have G:d<=40:=by omega
 have i:=Cal.Ur u r s t;have g:Cal.lT y m d=decide (1900<=y/\y<=2199):=by
  rw[Bool.eq_iff_iff,Cal.tX];simp only[decide_eq_true_eq];constructor
  .exact λ h=>h.1
  .exact λ h=>⟨h,⟨u,r⟩,s,t⟩
 clear p a;by_cases hr:1900<=y/\y<=2199
 .have f:dk y m d=6:=by simp[dk,g,hr]
  have c:dn y m d=Cal.num y m d:=by simp[dn,g,hr]
  obtain⟨k,x⟩:=i.2 hr;rw[f,c];clear f c g i hr;go_enter Tryz.func339,Tryz.ntmps339;go_wp2_with (first | (go_at_call 121;refine (bD _ _ _ _).mono ?_;rintro e w' ⟨rfl,rfl⟩) | (go_at_call 301;refine (uz _ _ _ (by omega) (by omega)).mono ?_;rintro e w' ⟨rfl,rfl⟩) | (go_at_call 275;refine (nU _ _ _ _ (by omega) (by omega) (by omega) (by omega) (by omega) (by omega)).mono ?_;rintro e w' ⟨rfl,rfl⟩));refine (NQ _ _ k x).mono ?_;rintro e w1 ⟨rfl,b⟩;obtain⟨l,z⟩:=acW b;have A:w.heap.size+1<=w1.heap.size:=by have:=b.size;simpa using this
  have j:EG w w1:=((Below.refl _ _).alloc (ap _) _).trans (b.mono (by simp));go_wp2;refine bodyPost_ret (v:=.agg #[ae ak 6,ae ak (Cal.num y m d),al ⟨#[]⟩,am none 0 0]) (by simp[results,Tryz.results339,go_sem,l]) rfl ⟨rfl,by repeat' (first | exact j | exact ap _ | apply Below.setCell)⟩
 .have f:dk y m d=0:=by simp[dk,g,hr]
  have c:dn y m d=0:=by simp[dn,g,hr]
  have k:Cal.num y m d < -25567\/84005<Cal.num y m d:=by
   have:=mt i.1 hr;omega
  rw[f,c];clear f c g i hr;have R1:=qh k;clear k;go_enter Tryz.func339,Tryz.ntmps339;go_wp2_with (first | (go_at_call 121;refine (bD _ _ _ _).mono ?_;rintro e w' ⟨rfl,rfl⟩) | (go_at_call 301;refine (uz _ _ _ (by omega) (by omega)).mono ?_;rintro e w' ⟨rfl,rfl⟩) | (go_at_call 275;refine (nU _ _ _ _ (by omega) (by omega) (by omega) (by omega) (by omega) (by omega)).mono ?_;rintro e w' ⟨rfl,rfl⟩));refine (JX _ _ R1.o).mono ?_;rintro e w1 ⟨rfl,b⟩;obtain⟨l,z⟩:=acW b;have A:w.heap.size+1<=w1.heap.size:=by have:=b.size;simpa using this
  have j:EG w w1:=((Below.refl _ _).alloc (ap _) _).trans (b.mono (by simp));go_wp2;refine bodyPost_ret (v:=.agg #[ae ak 0,ae ak 0,al ⟨#[]⟩,am none 0 0]) (by simp[results,Tryz.results339,go_sem,l]) rfl ⟨rfl,by repeat' (first | exact j | exact ap _ | apply Below.setCell)⟩
end Go.Proofs.YtcnagconagpkcaaGreatDoor
namespace Go.Proofs.YtcnagconagpkcaaGreatDoor
open Go.RowKit Dig Vtx
theorem wH (s o n:ByteArray) (w:World) (h:s.size<=2000000) (b:1<=o.size) (f:n.size<=2) (a:Mx w) :
  Calls Tryz.prog 259 #[al s,al o,al n] w λ e w'=>(∃ t:ByteArray,e = ao (al t)/\t.data.toList=a2 s.data.toList o.data.toList n.data.toList)/\EG w w':=by
 obtain⟨m,a⟩:=a;have d:=bc o b s.size s (ap _);have:Lib.countB s o*n.size<=s.size*2:=Nat.mul_le_mul d f;exact (Tryz.strings_ReplaceAll s o n m w (by omega) a b (by omega)).mono λ _ _ ⟨g,c⟩=>⟨⟨_,g,rfl⟩,c⟩
theorem SL (s:List UInt8):(a2 s [39] [39,39]).length<=2*s.length:=by
 rw[lH (by simp),Df]
 induction s with
 | nil=>simp[subst1]
 | cons b r ih =>
  have e:subst1 39 [39,39] (b :: r)=(if b=39 then [39,39] else [b]) ++ subst1 39 [39,39] r:=by simp[subst1]
  rw[e,av,aq];split <;> simp <;> omega
theorem NR (k n:Int) (s:ByteArray) (l:List Int) (S:List UInt8) (A:Option Addr) (c B1:Nat) (w:World) (T:s.data.toList=S) (hq:WG k n S l) (hl:l.length<=1000) (hs:s.size<=1000)
  (U:Reads w B1 1 A l.length (bF ak l)) (C:B1<=w.heap.size) (j:Tab w) (Q:Mx w) :
  Calls Tryz.prog 236 #[.agg #[ae ak k,ae ak n,al s,am A l.length c]] w λ e w'=>(∃ t:ByteArray,e = ao (al t)/\t.data.toList=showT k n S l)/\EG w w':=by
 have B:=qh j;have Z:=qh Q;have HX:=qh (U.more C);have W:=qh T;clear j Q U T C;have F:∀ o:Obj,EG w (w.alloc o):=λ o=>(Below.refl _ _).alloc (ap _) _;have b:=qh F;clear F;cases hq with
 | none_ =>
  go_enter Tryz.func236,Tryz.ntmps236;go_wp2;go_ret;exact⟨⟨_,rfl,rfl⟩,b.o _⟩
 | word i q =>
  have i1:∀ w,(Instr.index 348 (.agg #[al ⟨#[]⟩,al ⟨#[100,111,110,116,107,110,111,119]⟩,al ⟨#[114,101,102,117,115,101,100]⟩,al ⟨#[110,111,97,110,115,119,101,114]⟩]) (ae ak 1)).run Tryz.prog w = .ok (al ⟨#[100,111,110,116,107,110,111,119]⟩) w:=λ _=>by kernel_rfl
  have i2:∀ w,(Instr.index 348 (.agg #[al ⟨#[]⟩,al ⟨#[100,111,110,116,107,110,111,119]⟩,al ⟨#[114,101,102,117,115,101,100]⟩,al ⟨#[110,111,97,110,115,119,101,114]⟩]) (ae ak 2)).run Tryz.prog w = .ok (al ⟨#[114,101,102,117,115,101,100]⟩) w:=λ _=>by kernel_rfl
  have i3:∀ w,(Instr.index 348 (.agg #[al ⟨#[]⟩,al ⟨#[100,111,110,116,107,110,111,119]⟩,al ⟨#[114,101,102,117,115,101,100]⟩,al ⟨#[110,111,97,110,115,119,101,114]⟩]) (ae ak 3)).run Tryz.prog w = .ok (al ⟨#[110,111,97,110,115,119,101,114]⟩) w:=λ _=>by kernel_rfl
  obtain rfl | rfl | rfl:n=1\/n=2\/n=3:=by omega
  all_goals
   go_enter Tryz.func236,Tryz.ntmps236;go_wp2;go_ret;exact⟨⟨_,rfl,rfl⟩,b.o _⟩
 | num i q =>
  have HR:=qh (λ w'=>FC n w' i q);go_enter Tryz.func236,Tryz.ntmps236;go_wp2_with fail;refine (HR.o _ (B.o.below (b.o _))).mono ?_;rintro e u ⟨⟨t,rfl,f⟩,g⟩;have a:=(b.o _).trans (g.mono (b.o _).size);have p:=qh f;clear f g;go_wp2;go_ret;exact⟨⟨_,rfl,p.o⟩,a⟩
 | text S =>
  go_enter Tryz.func236,Tryz.ntmps236;go_wp2_with fail;refine (wH s ⟨#[39]⟩ ⟨#[39,39]⟩ _ (by omega) (ap 1) (ap 2) (Z.o.below (b.o _))).mono ?_;rintro e u ⟨⟨t,rfl,f⟩,g⟩;rw[W.o] at f;have a:=(b.o _).trans (g.mono (b.o _).size);have p:=qh (show t.data.toList=a2 S [39] [39,39] from f);have J:t.size<=2000:=by
   rw[oG p.o];have i:=SL S;have q:S.length=s.size:=by rw[<- W.o];rfl
   omega
  clear f g;go_wp2;go_ret;exact⟨⟨_,rfl,by rw[fG,fG,p.o];rfl⟩,a⟩
 | code i q =>
  go_enter Tryz.func236,Tryz.ntmps236;go_wp2_with fail;refine (zS n _ (by omega) (by omega) (B.o.below (b.o _))).mono ?_;rintro e u ⟨⟨t,rfl,f⟩,g⟩;have a:=(b.o _).trans (g.mono (b.o _).size);have p:=qh f;have J:t.size<=20:=by
   rw[oG f];obtain⟨m,rfl⟩:∃ m:Nat,n=m:=⟨n.toNat,by omega⟩;rw[lD];have:=iD 2 m (by omega);omega
  clear f g;go_wp2;go_ret;exact⟨⟨_,rfl,by rw[fG,p.o];rfl⟩,a⟩
 | set h =>
  have HC:=qh h;clear h;go_enter Tryz.func236,Tryz.ntmps236;go_wp2_with fail;refine (NP A l c w.heap.size _ hl HC.o (HX.o.below (b.o _)) (b.o _).size (B.o.below (b.o _))).mono ?_;rintro e u ⟨⟨t,rfl,f⟩,g⟩;have a:=(b.o _).trans (g.mono (b.o _).size);have p:=qh f;clear f g;go_wp2;go_ret;exact⟨⟨_,rfl,p.o⟩,a⟩
 | day i q =>
  obtain⟨y,m,d,X,R,V,hy,I,hd,K,Y⟩:=IX i q;have z:=qh (And.intro X (And.intro R V));have O:=qh (And.intro (tZ (w:=4) (n:=y) (iD 3 y hy)) (And.intro (tZ (w:=2) (n:=m) (iD 1 m I)) (tZ (w:=2) (n:=d) (iD 1 d hd))));have M:=qh (λ w'=>UX n w' i q);clear X R V K Y;go_enter Tryz.func236,Tryz.ntmps236;go_wp2_with fail;refine (M.o _).mono ?_;rw[z.o.1,z.o.2.1,z.o.2.2];rintro e u ⟨rfl,rfl⟩;have L:=b.o (.cells #[ae ak 6,ae ak n,al s,am A ([]:List Int).length c] 65 (0,0));go_wp2_with fail;refine (uy y 4 _ (by omega) (by omega) (by omega) (B.o.below (b.o _))).mono ?_;rintro e u ⟨⟨t1,rfl,x⟩,E⟩;have a:=(b.o _).trans (E.mono (b.o _).size);have P:=qh x;have ab:t1.size<=4:=by rw[oG x,O.o.1];exact ap _
  clear x E L;go_wp2_with fail;refine (uy m 2 u (by omega) (by omega) (by omega) (B.o.below a)).mono ?_;rintro e w2 ⟨⟨t2,rfl,v⟩,D⟩;have a:=a.trans (D.mono a.size);have N:=qh v;have ac:t2.size<=2:=by rw[oG v,O.o.2.1];exact ap _
  clear v D;go_wp2_with fail;refine (uy d 2 w2 (by omega) (by omega) (by omega) (B.o.below a)).mono ?_;rintro e w3 ⟨⟨t3,rfl,r⟩,G⟩;have a:=a.trans (G.mono a.size);have H:=qh r;have aa:t3.size<=2:=by rw[oG r,O.o.2.2];exact ap _
  clear r G;go_wp2;go_ret;refine⟨⟨_,rfl,?_⟩,a⟩;show _=yH n;unfold yH;rw[z.o.1,z.o.2.1,z.o.2.2];simp only[fG,P.o,N.o,H.o];rfl
 | bool i q =>
  obtain rfl | rfl:n=0\/n=1:=by omega
  all_goals
   go_enter Tryz.func236,Tryz.ntmps236;go_wp2_with fail;refine (Tryz.strconv_FormatBool _ _).mono ?_;rintro e u ⟨rfl,rfl⟩;go_wp2;go_ret;exact⟨⟨_,rfl,by decide +kernel⟩,b.o _⟩
theorem yL {x:Val} (h:di x=0):WG x.k x.n x.s.data.toList x.l/\x.l.length<=40/\x.s.size<=200:=by
 unfold di at h;by_cases h1:bu x.k 0 7=true
 .rw[if_pos h1] at h;cases h
 rw[if_neg h1] at h;by_cases h2:tu x=true
 .rw[if_pos h2] at h;cases h
 rw[if_neg h2] at h;by_cases h3:bu x.n (En x.k) (Eo x.k)=true
 .rw[if_pos h3] at h;cases h
 rw[if_neg h3] at h;by_cases h4:200<x.s.size\/40<x.l.length
 .rw[if_pos h4] at h;cases h
 rw[if_neg h4] at h;by_cases h5:Es x.s=true
 .rw[if_pos h5] at h;cases h
 rw[if_neg h5] at h;by_cases h6:x.l.any nX=true
 .rw[if_pos h6] at h;cases h
 clear h h5;have a:∀ c∈x.l,1<=c/\c<=999:=by
  intro c a;rw[Bool.not_eq_true,List.any_eq_false] at h6;have:=h6 c a;simp only[nX,bu,Bool.or_eq_true,decide_eq_true_eq,not_or] at this;omega
 simp only[not_or] at h4;refine⟨?_,by omega,by omega⟩;simp only[bu,Bool.or_eq_true,decide_eq_true_eq,not_or] at h1 h3;obtain⟨k,n,s,l⟩:=x;simp only[tu] at h2;simp only at h1 h3 a;rw[aM] at h2;show WG k n s.data.toList l;generalize s.data.toList=S at h2;clear h4 h6;have b:k=0\/k=1\/k=2\/k=3\/k=4\/k=5\/k=6\/k=7:=by omega
 rcases b with rfl | rfl | rfl | rfl | rfl | rfl | rfl | rfl
 all_goals simp[WS] at h2
 .obtain⟨rfl,rfl,rfl⟩:=h2;exact .none_
 .obtain⟨rfl,rfl⟩:=h2;simp[En,Eo] at h3;exact .word (by omega) (by omega)
 .obtain⟨rfl,rfl⟩:=h2;simp[En,Eo] at h3;exact .num (by omega) (by omega)
 .obtain⟨rfl,rfl⟩:=h2;exact .text _
 .obtain⟨rfl,rfl⟩:=h2;simp[En,Eo] at h3;exact .code (by omega) (by omega)
 .obtain⟨rfl,rfl⟩:=h2;exact .set a
 .obtain⟨rfl,rfl⟩:=h2;simp[En,Eo] at h3;exact .day (by omega) (by omega)
 .obtain⟨rfl,rfl⟩:=h2;simp[En,Eo] at h3;exact .bool (by omega) (by omega)
end Go.Proofs.YtcnagconagpkcaaGreatDoor
namespace Go.Proofs.YtcnagconagpkcaaGreatDoor
open Vtx
theorem JY {n:Int} (b : -9223372036854775808<=n) (a:n<=9223372036854775807):(aD n).length<=21:=Lib.itoa_length_le n b a
theorem Ec (w:Nat) {n:Int} (b : -9223372036854775808<=n) (a:n<=9223372036854775807):(oQ w n).length<=w+21:=by
 unfold oQ;have:=JY b a;rw[av];simp only[Dig.zeros,List.length_replicate];omega
theorem abE (l:List UInt8) (c:UInt8):(aX l c).length<=l.length:=by
 unfold aX;rw[bh];have:=(List.dropWhile_suffix (p:=(· == c)) (l:=l.reverse)).length_le
 rwa [bh] at this
theorem abG {n:Int} (b : -999999999999999<=n) (e:n<=999999999999999):(qF n).length<=100:=by
 have a:0<=oC n/\oC n<=999999999999999:=by unfold oC;split <;> omega
 have d:=JY (n:=oC n / 10000) (by omega) (by omega);have f:(jq (oC n % 10000)).length<=25:=bi (abE _ _) (Ec 4 (by omega) (by omega));unfold qF;rw[av,av];have e3:(if n<0 then ([45]:List UInt8) else []).length<=1:=by split <;> simp
 have c:(if jq (oC n % 10000) = [] then [] else 46 :: jq (oC n % 10000)).length<=26:=by
  split
  .simp
  .rw[aq];omega
 omega
theorem SN {v:Val} (h:di v=0):(showT v.k v.n v.s.data.toList v.l).length<=500:=by
 obtain⟨b,f,d⟩:=yL h;have c:v.s.data.toList.length<=200:=by simpa using d
 generalize v.s.data.toList=S at b c;generalize v.k=k at b;generalize v.n=n at b;generalize v.l=l at b f;cases b with
 | none_=>decide
 | word h1 h2 =>
  show (XC n).length<=500;unfold XC;split
  .decide
  split <;> decide
 | num h1 h2=>exact bi (abG h1 h2) (by decide)
 | text s =>
  show (Na S).length<=500;unfold Na;have:=SL S;rw[av,aq,bj];omega
 | code h1 h2 =>
  show (iG n).length<=500;unfold iG;have:=JY (n:=n) (by omega) (by omega);rw[aq];omega
 | set hc =>
  show (zF l).length<=500;unfold zF;have:=Ci l hc;rw[av,aq,bj];omega
 | day h1 h2 =>
  show (yH n).length<=500;have a:=Cal.MX h1 h2;obtain⟨b1,b2⟩:=Cal.yG h1 h2 a.year.1 a.year.2;have e:=Cal.EN (Cal.cy n) (Cal.cm n);have b3:=a.m1;have j:=a.m2;have i:=a.d1;have g:=a.d2;have m:=Ec 4 (n:=Cal.cy n) (by omega) (by omega);have o:=Ec 2 (n:=Cal.cm n) (by omega) (by omega);have e3:=Ec 2 (n:=Cal.cd n) (by omega) (by omega);unfold yH;simp only[av,aq,aw];omega
 | bool h1 =>
  show (if n=1 then qL else ny).length<=500;split <;> decide
theorem abH {p:Prop} [Decidable p] {a b:List UInt8} {k:Nat} (c:a.length<=k) (d:b.length<=k):(if p then a else b).length<=k:=by split <;> assumption
theorem NS (op:Int):(dN op).length<=3:=by
 unfold dN
 iterate 13 refine abH (by decide) ?_
 decide
theorem SQ (op:Int):(uY op).length<=8:=by
 unfold uY;split
 .rename_i p a;have:∀ p∈vU,p.2.length<=8:=by decide
  exact this p (List.mem_of_find?_eq_some a)
 .decide
theorem SS (op:Int):(kW op).length<=5:=by
 unfold kW;rw[a3];rcases h:JI[op.toNat]? with _ | l
 .decide
 .have:∀ p∈JI,p.length<=5:=by decide
  exact this l (bk h)
theorem yM (b:Bool) (t:List UInt8):(rW b t).length<=t.length+2:=by
 unfold rW;split
 .simp
 .omega
theorem ry (c:Int):∀ {ar:List Ex},(∀ a∈ar,a.text.length+100<=1000*a.parts)->((insL c ar).map List.length).sum+98*ar.length<=1000*aI ar/\∀ i,((insL c ar).getD i []).length<=1000*aI ar+2
 | [],_=>by simp[insL,aI]
 | a :: r,h=>by
  have e:=ry c (λ b d=>h b (bf _ d)) (ar:=r);have g:=h a (a0 ..);have f:=yM (decide (iE a<c)) a.text;rw[insL,aI];refine⟨by simp only[aZ,List.sum_cons,aq];omega,λ i=>?_⟩;cases i with
  | zero=>simp only[List.getD_cons_zero];omega
  | succ i =>
   have:=e.2 i;simp only[List.getD_cons_succ];omega
theorem pG (a:Int) (ar:List Ex):(insL a ar).length=ar.length:=by rw[rX];simp
theorem zU {s:ByteArray} (h:bz s.data.toList=true):s.data.toList.length<=16:=by
 unfold bz at h;simp only[Bool.and_eq_true,decide_eq_true_iff] at h;exact h.1.1.1.2
theorem sH {e:Ex} (h:jV e=0) (a:e.k=2\/e.k=3\/e.k=5):bz e.nm.data.toList=true:=by
 unfold jV Et at h;by_cases c1:bu e.k 1 5=true
 .rw[if_pos c1] at h;exact absurd h (by decide)
 rw[if_neg c1,if_neg (by omega)] at h;by_cases c3:e.k=5/\bu e.op 1 6=true
 .rw[if_pos c3] at h;exact absurd h (by decide)
 rw[if_neg c3] at h;by_cases c4:dY e.k e.op e.nm e.v e.ar.length=true
 .rw[if_pos c4] at h;exact absurd h (by decide)
 rw[if_neg c4,if_neg (by omega),if_neg (by omega)] at h;by_cases c5:bz e.nm.data.toList=true
 .exact c5
 .rw[if_neg c5] at h;exact absurd h (by decide)
theorem wI {e:Ex} (h:jV e=0) (a:e.k=1):di e.v=0:=by
 unfold jV Et at h;by_cases c1:bu e.k 1 5=true
 .rw[if_pos c1] at h;exact absurd h (by decide)
 rw[if_neg c1,if_neg (by omega),if_neg (by omega)] at h;by_cases c4:dY e.k e.op e.nm e.v e.ar.length=true
 .rw[if_pos c4] at h;exact absurd h (by decide)
 rw[if_neg c4,if_pos a] at h;split at h
 .exact absurd h (by decide)
 .exact h
theorem SV (e:Ex):e.fault=0->e.text.length+100<=1000*e.parts:=by
 induction e using Ex.ind with
 | h e ih =>
  intro t;have g:=tH t;have P:=lQ g;have w:=xq t;have c:=λ a h=>ih a h (w a h);rw[text_eq,parts_eq];by_cases k1:e.k=1
  .rw[if_pos k1];have:=SN (wI g k1);omega
  rw[if_neg k1];by_cases k2:e.k=2
  .rw[if_pos k2];have:=zU (sH g (.inl k2));omega
  rw[if_neg k2];by_cases k3:e.k=3
  .rw[if_pos k3];have:=zU (sH g (.inr (.inl k3)));simp only[av,aq,aw];omega
  rw[if_neg k3];have s:=ry 0 c;by_cases k5:e.k=5
  .rw[if_pos k5];have q:=zU (sH g (.inr (.inr k5)));have d:=SS e.op;have o:=s.2 0;simp only[av,aq,aw];omega
  rw[if_neg k5];have u:=Be e.ar;split
  .have q:=(ry 2 c).1;have d:=rY (insL 2 e.ar) [32,111,114,32];rw[pG] at d;simp only[aq,aw] at d;omega
  split
  .have q:=(ry 3 c).1;have d:=rY (insL 3 e.ar) [32,97,110,100,32];rw[pG] at d;simp only[aq,aw] at d;omega
  have o:=(ry 3 c).2;have z:=(ry 5 c).2;have A:=(ry 6 c).2;have y:=(ry 7 c).2;have x:=NS e.op;have f:∀ (l1 k:Int),((insL l1 e.ar).getD 0 []).length+((insL k e.ar).getD 1 []).length<=1000*aI e.ar+4:=by
   intro l1 k;have p:∀ (l:Int),∀ i,∀ a,e.ar[i]?=some a->((insL l e.ar).getD i []).length<=1000*a.parts+2:=λ l i a j=>by
    rw[rX,a3,bl,j];have:=yM (decide (iE a<l)) a.text;have:=c a (bk j);simp only[Option.map_some,Option.getD_some];omega
   have v:∀ (l:Int),∀ i,e.ar[i]?=none->((insL l e.ar).getD i []).length=0:=λ l i j=>by
    rw[rX,a3,bl,j];rfl
   match hr:e.ar with
   | []=>simp[insL]
   | [a] =>
    have m:=p l1 0 a (by rw[hr];rfl);have n:=v k 1 (by rw[hr];rfl);rw[hr] at m n;simp only[aI];omega
   | a :: b :: r =>
    have m:=p l1 0 a (by rw[hr];rfl);have n:=p k 1 b (by rw[hr];rfl);rw[hr] at m n;simp only[aI];omega
  split
  .have:=o 0;simp only[av,aq,aw];omega
  split
  .have:=f 5 5;simp only[av,aq,aw];omega
  split
  .have:=f 5 6;simp only[av,aq,aw];omega
  split
  .have:=f 6 7;simp only[av,aq,aw];omega
  split
  .split
   .have:=s.2 0;simp only[av,aq,aw];omega
   .have:=y 0;simp only[av,aq,aw];omega
  .have q:=(ry 1 c).1;have d:=rY (insL 1 e.ar) [44,32];have o:=SQ e.op;rw[pG] at d;simp only[av,aq,aw] at *;omega
end Go.Proofs.YtcnagconagpkcaaGreatDoor
