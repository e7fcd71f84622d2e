/- Lemmas. -/
import Derived.Test.YtcnagconagpkcaaGreatDoorZ10
set_option maxHeartbeats 4000000
set_option maxRecDepth 100000
open Go.Value renaming int->ac, string->ak, slice->al, bool->am, string->aw, tuple->be
open Go.IntKind renaming i64->ae
open Go.Ending renaming returned->an
open Nat renaming le_refl->ao, zero_le->ay, lt_or_ge->aE, pow_le_pow_right->a9, le_trans->bj
open List renaming length_cons->ap, length_append->aq, length_nil->av, map_cons->a0, mem_cons_self->a1, getD_eq_getElem?_getD->a4, all_cons->a5, take_succ_eq_append_getElem->a6, getElem_mem->a8, take_of_length_le->ba, mem_cons_of_mem->bg, map_append->bh, length_reverse->bi, length_singleton->bk, mem_of_getElem?->bl, getElem?_map->bm
open Go.Lib renaming join->ax, itoa->aD, cut->aL, trimRightB->aW, replaceAll->a3, trimPrefix->bb, splitB_all->bc, countB_le->bd, join_cons->bf
open Go.ByteArray renaming toList_eq->aM
open Array renaming getElem?_eq_none->aR
open Bool renaming or_eq_false_iff->a2, eq_false_iff->a7
namespace Go.Proofs.YtcnagconagpkcaaGreatDoor
open Go.RowKit Dig Vtx
theorem vX {t:ByteArray} {l:List UInt8} (h:t.data.toList=l):t=⟨l.toArray⟩:=by subst h;rfl
theorem oU {t:ByteArray} {l:List UInt8} (h:t.data.toList=l):t.size=l.length:=by rw[<- h];rfl
theorem fO (a b:ByteArray):(a ++ b).data.toList=a.data.toList ++ b.data.toList:=by rw[ByteArray.data_append,Array.toList_append]
def uO (l:List UInt8):Value:=.tuple #[ac ae ((dK l).1:Nat),am (dK l).2]
theorem JL {l:List UInt8} (h:l = []\/15<l.length):uO l = .tuple #[ac ae 0,am false]:=by unfold uO dK;rw[if_pos h];rfl
theorem Gz {l:List UInt8} (h:l.all gp=false):uO l = .tuple #[ac ae 0,am false]:=by
 unfold uO dK;split
 .rfl
 .rw[h];rfl
theorem Vh {l:List UInt8} (a:l≠[]) (b:l.length<=15) (h:l.all gp=true):uO l = .tuple #[ac ae (eY l:Nat),am true]:=by
 unfold uO dK;rw[if_neg (by simp[a];omega),if_pos h]
theorem JM:∀ (l:List UInt8),l.all gp=true->eY l<10 ^ l.length:=by
 intro l
 induction l with
 | nil=>intro _;decide
 | cons b r ih =>
  intro h;rw[a5,Bool.and_eq_true] at h;have:=ih h.2;have a:=h.1;simp only[gp,Bool.and_eq_true,decide_eq_true_eq] at a;rw[DR,ap,Nat.pow_succ];have:(b.toNat - 48)*10 ^ r.length<=9*10 ^ r.length:=Nat.mul_le_mul_right _ (by omega);omega
theorem ab5 {s:ByteArray} {k:Nat} (h:k<s.size):∃ a:k<s.data.toList.length,s.data.toList[k]=s[k]:=⟨by simpa using h,rfl⟩
theorem oC (s:ByteArray) (w:World) :
  KG 332 #[ak s] w (uO s.data.toList):=by
 by_cases h0:s=⟨#[]⟩
 .subst h0;go_enter Tryz.func332,Tryz.ntmps332;go_wp2;go_ret2;exact⟨bP (JL (.inl rfl)).symm,rfl⟩
 have c:s.data.toList≠[]:=λ e=>h0 (vX e);have F:s.toList.isEmpty=false:=by rw[aM];simpa using c
 have a:s.data.toList.length=s.size:=rfl;by_cases h1:15<s.size
 .have D:=qh (JL (l:=s.data.toList) (.inr (by rw[a];exact h1)));clear c a h0;go_enter Tryz.func332,Tryz.ntmps332;go_wp2;go_ret2;exact⟨bP D.o.symm,rfl⟩
 have H:s.size<=15:=by omega
 have B:=qh c;have g:=qh a;clear c a h0 h1;go_enter Tryz.func332,Tryz.ntmps332;go_wp2
 go_loop [4,5] (λ n i=>∃ k v:Nat,k<=s.size/\i = ac ae (k:Int)/\n = ac ae (v:Int)/\v<=1000000000000000/\Hid (v=eY (s.data.toList.take k)/\(s.data.toList.take k).all gp=true)) (λ _ i=>s.size - (intOf i).toNat)
 case atStart=>exact⟨0,0,ay _,rfl,rfl,by omega,qh ⟨rfl,rfl⟩⟩
 case round =>
  obtain⟨k,v,G,rfl,rfl,E,q⟩:=hrel;by_cases hlt:k<s.size
  .obtain⟨y,t⟩:=ab5 hlt;obtain⟨b,j⟩:=af (s[k]);have p:=qh j;have x:=qh (show s.data.toList.take (k+1)=s.data.toList.take k ++ [b] by rw[a6 y,t,j]);have m:=qh (show gp b=false->s.data.toList.all gp=false from λ h=>by
    rw[a7];intro e;rw[List.all_eq_true] at e;have:=e s.data.toList[k] (a8 y);rw[t,j,h] at this;cases this)
   clear t;by_cases h1:((s[k].toNat:Nat):Int)<48
   .have u:=qh (Gz (m.o (by rw[<- p.o];unfold gp;simp;omega)));clear j;go_wp2;go_ret2;exact⟨bP u.o.symm,rfl⟩
   .by_cases h2:57<((s[k].toNat:Nat):Int)
    .have u:=qh (Gz (m.o (by rw[<- p.o];unfold gp;simp;omega)));clear j;go_wp2;go_ret2;exact⟨bP u.o.symm,rfl⟩
    .have d:(s.data.toList.take (k+1)).all gp=true:=by
      rw[x.o,List.all_append,q.o.2,a5,<- p.o];unfold gp;simp;omega
     have f:v*10+(s[k].toNat - 48)=eY (s.data.toList.take (k+1)):=by rw[x.o,DT,<- q.o.1,<- p.o]
     have r:=JM _ d;have o:eY (s.data.toList.take (k+1))<=1000000000000000:=by
      have:10 ^ (s.data.toList.take (k+1)).length<=10 ^ 15:=a9 (by omega) (by rw[List.length_take,g.o];omega);omega
     rw[<- f] at o;have A:=qh (And.intro f d);have C:48<=s[k].toNat:=by omega
     clear j d f r;go_wp2
     go_round
     case rel=>exact⟨k+1,v*10+(s[k].toNat - 48),by omega,by go_num,by first | go_num | (congr 1;omega),o,A⟩
     case measure=>simp[intOf];omega
  .have z:=qh (show uO s.data.toList = .tuple #[ac ae (v:Nat),am true] by
    have h:=q.o;rw[ba (by rw[g.o];omega)] at h;rw[Vh B.o (by rw[g.o];omega) h.2,h.1])
   go_wp2;go_ret2;exact⟨bP z.o.symm,rfl⟩
abbrev Tab (w:World):Prop:=Lib.TabIs Tryz.prog w "internal/strconv.uint64pow10" .u64 Lib.pow10Tab
theorem Tab.below {w w':World} (h:Tab w) (c:IY w w'):Tab w':=by
 unfold Tab Lib.TabIs World.var? at *;cases hg:Tryz.prog.globalNamed "internal/strconv.uint64pow10" with
 | none=>rw[hg] at h;cases h
 | some g =>
  rw[hg] at h;simp only[Option.bind_some] at h ⊢;have b:g<w.heap.size:=by
   rcases aE g w.heap.size with a | a
   .exact a
   .rw[aR a] at h;cases h
  rw[c.block g b];exact h
theorem Bc (n:Int) (w:World) (f : -9223372036854775808<=n) (b:n<=9223372036854775807) (a:Tab w) :
  Calls Tryz.prog 28 #[ac ae n] w λ e w'=>(∃ t:ByteArray,e = an (ak t)/\t.data.toList=aD n)/\IY w w':=
 (Tryz.strconv_Itoa n f b w a).mono λ _ _ ⟨d,_,_,c⟩=>⟨⟨_,d,rfl⟩,c▸Lib.below_grow _ w (ao _) _ _⟩
def strLen (v:Value):Nat:=match v with
 | ak t=>t.size
 | _=>0
theorem uP (n:Int) (W:Nat) (w:World) (x:0<=n) (u:n<=9223372036854775807) (y:W<=20) (a:Tab w) :
  Calls Tryz.prog 262 #[ac ae n,ac ae (W:Nat)] w λ e w'=>(∃ t:ByteArray,e = an (ak t)/\t.data.toList=pF W n)/\IY w w':=by
 have l:=qh a;clear a;go_enter Tryz.func262,Tryz.ntmps262;go_wp2_with fail;refine (Bc n w (by omega) u l.o).mono ?_;rintro e v ⟨⟨o,rfl,c⟩,i⟩;obtain⟨L,g⟩:=af ((aD n).length);have b:=qh c;have r:L<=20:=by
  obtain⟨m,rfl⟩:∃ m:Nat,n=m:=⟨n.toNat,by omega⟩;rw[lK] at g;have:=iK 18 m (by omega);omega
 have f:=qh g;clear c g;go_wp2_with (fail)
 go_loop [5] (λ s=>∃ (t:ByteArray) (k:Nat),s = ak t/\Hid (t.data.toList=zeros k ++ aD n)/\k<=W - L) (λ s=>W - strLen s)
 case atStart=>exact⟨o,0,rfl,qh b.o,ay _⟩
 case round =>
  obtain⟨t,k,rfl,d,z⟩:=hrel;have j:t.size=k+L:=by
   have:t.data.toList.length=k+L:=by rw[d.o];simp[zeros,f.o]
   exact this
  have p:t.size<=k+L:=by omega
  have q:k+L<=t.size:=by omega
  clear j;by_cases hlt:t.size<W
  .go_wp2_with (fail)
   go_round
   case rel =>
    refine⟨⟨#[48]⟩ ++ t,k+1,rfl,qh ?_,by omega⟩;rw[fO,d.o,show zeros (k+1)=48 :: zeros k from rfl];rfl
   case measure =>
    have:(⟨#[48]⟩ ++ t:ByteArray).size=t.size+1:=by rw[ByteArray.size_append];show 1+t.size=_;omega
    simp[strLen,this];omega
  .have h:=qh (show t.data.toList=pF W n by
    rw[d.o];unfold pF;rw[f.o,show k=W - L by omega])
   clear d b f;go_wp2;go_ret;exact⟨⟨_,rfl,h.o⟩,i⟩
theorem OG (t:ByteArray) (w:World) (h:t.size<=100) :
  Calls Tryz.prog 273 #[ak t,ak ⟨#[48]⟩] w λ e w'=>(∃ u:ByteArray,e = an (ak u)/\u.data.toList=aW t.data.toList 48)/\w=w':=
 (Tryz.strings_TrimRight_one t 48 (by decide) w (by omega)).mono λ _ _ ⟨b,a⟩=>⟨⟨_,b,rfl⟩,a.symm⟩
theorem GG (n:Int) (w:World) (h1 : -999999999999999<=n) (Z:n<=999999999999999) (c:Tab w) :
  Calls Tryz.prog 258 #[ac ae n] w λ e w'=>(∃ t:ByteArray,e = an (ak t)/\t.data.toList=qR n)/\IY w w':=by
 have E:=qh c;clear c;obtain⟨a,k⟩:=af (oO n);have x:0<=a/\a<=999999999999999:=by rw[<- k];unfold oO;split <;> omega
 obtain⟨Y,Q⟩:=x;obtain⟨F,hF⟩:=af (a / 10000);obtain⟨M,y⟩:=af (a % 10000);have P:0<=F:=by omega
 have S:F<=99999999999:=by omega
 have p:0<=M:=by omega
 have R:M<10000:=by omega
 have H:=qh (show qR n=(if n<0 then [45] else []) ++ aD F ++ (if jC M = [] then [] else 46 :: jC M) by unfold qR;rw[k,hF,y]);have T:=qh (show (aD F).length<=11 by
  obtain⟨m,rfl⟩:∃ m:Nat,F=m:=⟨F.toNat,by omega⟩;rw[lK];exact iK 10 m (by omega))
 have j:=qh (show (pF 4 M).length=4/\(jC M).length<=4 by
  obtain⟨m,rfl⟩:∃ m:Nat,M=m:=⟨M.toNat,by omega⟩;exact⟨uA (iK 3 m (by omega)),(OE (by omega)).2⟩)
 have G:=qh k;have C:=qh hF;have z:=qh y;clear k hF y;go_enter Tryz.func258,Tryz.ntmps258
 go_upto_if 7 with (fail)
 go_cut [0,3] (λ v s X=>v = ac ae a/\(∃ o:ByteArray,s = ak o/\Hid (o.data.toList=if n<0 then [45] else [])/\o.size<=1)/\X=w)
 case first =>
  by_cases hn:n<0
  .have A:=qh (show a = -n by rw[<- G.o];unfold oO;rw[if_pos hn]);go_wp2_with (fail)
   go_meet
   exact⟨by rw[A.o],⟨_,rfl,qh (by rw[if_pos (by omega)]),by decide⟩,rfl⟩
  .have A:=qh (show a=n by rw[<- G.o];unfold oO;rw[if_neg hn]);go_wp2_with (fail)
   go_meet
   exact⟨by rw[A.o],⟨_,rfl,qh (by rw[if_neg (by omega)]),by decide⟩,rfl⟩
 case rest =>
 obtain⟨rfl,⟨o,rfl,D,V⟩,rfl⟩:=hcut;have eF:a / 10000=F:=C.o;have eM:a % 10000=M:=z.o;go_wp2_with fail;refine (Bc F _ (by omega) (by omega) E.o).mono ?_;rintro e L ⟨⟨W,rfl,d⟩,b⟩;have N:W.size<=11:=by rw[oU d];exact T.o
 have K:=qh d;have r:=qh (E.o.below b);clear d;go_wp2_with fail;refine (uP M 4 L p (by omega) (by omega) r.o).mono ?_;rintro e U ⟨⟨I,rfl,g⟩,i⟩;have J:I.size<=4:=by rw[oU g,j.o.1];exact ao _
 have O:=qh g;have h:=b.trans (i.mono b.size);clear g b i;go_wp2_with fail;refine (OG I U (by omega)).mono ?_;rintro e w3 ⟨⟨u,rfl,l⟩,rfl⟩;rw[O.o] at l;have Be:u.size<=4:=by rw[oU l];exact j.o.2
 have q:=qh (show u.data.toList=jC M from l);clear l;by_cases h0:u=⟨#[]⟩
 .have B:=qh (show jC M = [] by rw[<- q.o,h0]);subst h0;go_wp2;go_ret;exact⟨⟨_,rfl,by rw[H.o,fO,D.o,K.o,if_pos B.o,List.append_nil]⟩,h⟩
 .have f:u.data.toList≠[]:=λ e=>h0 (vX e);have se:u.toList.isEmpty=false:=by rw[aM];simpa using f
  have B:=qh (show jC M≠[] by rw[<- q.o];exact f);clear f h0;go_wp2;go_ret;exact⟨⟨_,rfl,by rw[H.o,fO,fO,fO,D.o,K.o,if_neg B.o,q.o];simp⟩,h⟩
def Mx (w:World):Prop:=∃ m,w.cell? ⟨1,0,none⟩=some (ac ae m)
theorem Mx.below {w w':World} (h:Mx w) (b:IY w w'):Mx w':=by
 obtain⟨m,a⟩:=h;exact⟨m,Below.cell_of b a⟩
theorem LG (s p:ByteArray) (w:World) :
  Calls Tryz.prog 337 #[ak s,ak p] w λ e w'=>(∃ t:ByteArray,e = an (ak t)/\t.data.toList=bb s.data.toList p.data.toList)/\w=w':=
 (Tryz.strings_TrimPrefix s p w).mono λ _ _ ⟨b,a⟩=>⟨⟨_,b,rfl⟩,a.symm⟩
theorem ab6 (s:ByteArray) (c:UInt8) (w:World) (i:s.size<=2000000) (d:Mx w) :
  Calls Tryz.prog 60 #[ak s,ak ⟨#[c]⟩] w λ e w'=>(∃ a b:ByteArray,∃ f:Bool,e = an (.tuple #[ak a,ak b,am f])/\a.data.toList=(aL s.data.toList [c]).1/\b.data.toList=(aL s.data.toList [c]).2.1)/\IY w w':=by
 obtain⟨m,d⟩:=d;exact (Tryz.strings_Cut s ⟨#[c]⟩ m w (by omega) d).mono λ _ _ ⟨h,k,g⟩=>⟨⟨_,_,_,h,rfl,rfl⟩,g▸(Below.refl _ _).drewN k⟩
theorem JO (s:ByteArray) (c:UInt8) (w:World) (f:s.size<=2000000) (a:Mx w) :
  Calls Tryz.prog 338 #[ak s,ak ⟨#[c]⟩] w λ e w'=>∃ ps:List ByteArray,e = an (al (some ⟨w.heap.size,0,none⟩) ps.length ps.length)/\w'=w.alloc (.cells (ps.map aw).toArray 9)/\ps.map (·.data.toList)=Lib.split s.data.toList [c]/\ps.length<=s.size+1:=by
 obtain⟨m,a⟩:=a;refine (Tryz.strings_Split s ⟨#[c]⟩ m w (by omega) a (ao 1)).mono λ _ _ ⟨d,b⟩=>⟨Lib.splitB ⟨#[c]⟩ 0 (Lib.countB s ⟨#[c]⟩) s,?_,b,Lib.splitB_data _ _ _ _,?_⟩
 .rw[d,bc ⟨#[c]⟩ (ao 1) 0 _ s rfl]
 .rw[bc ⟨#[c]⟩ (ao 1) 0 _ s rfl];have:=bd ⟨#[c]⟩ (ao 1) s.size s (ao _);omega
theorem kN (l:List UInt8):∃ (a:Nat) (b:Bool),dK l=(a,b)/\uO l = .tuple #[ac ae (a:Nat),am b]/\a<=1000000000000000:=by
 have d:(dK l).1<=1000000000000000:=by
  unfold dK;split
  .exact ay _
  .rename_i h;split
   .rename_i c;have:=JM l c;have:10 ^ l.length<=10 ^ 15:=a9 (by omega) (by simp only[not_or] at h;omega);show eY l<=_;omega
   .exact ay _
 exact⟨_,_,rfl,rfl,d⟩
def LH (k:Int) (o:Option Int):Value:=match o with
 | some n=>.tuple #[.agg #[ac ae k,ac ae n,ak ⟨#[]⟩,al none 0 0],am true]
 | none=>.tuple #[.agg #[ac ae 0,ac ae 0,ak ⟨#[]⟩,al none 0 0],am false]
theorem GH (s:ByteArray) (w:World) (hs:s.size<=2000000) (Z:Mx w) :
  IE 335 #[ak s] w (LH 2 (jR s.data.toList)):=by
 have HM:=qh Z;clear Z;go_enter Tryz.func335,Tryz.ntmps335;go_wp2_with fail;obtain⟨W,H⟩:=aC ((w.alloc (.cells #[ac ae 0,ac ae 0,ak ⟨#[]⟩,al none 0 0] 65 (0,0))));have i:IY w W:=by rw[H];exact ((Below.refl _ w).alloc (ao _) _)
 have B0:ah W (w.heap.size) 65 #[ac ae 0,ac ae 0,ak ⟨#[]⟩,al none 0 0]:=by
  rw[H];have:=ah.new w 65 #[ac ae 0,ac ae 0,ak ⟨#[]⟩,al none 0 0];exact this
 have x:W.heap.size=w.heap.size+1:=by rw[H];simp
 rw[<- H];clear H x;refine (LG s ⟨#[45]⟩ W).mono ?_;rintro e U ⟨⟨d,rfl,X⟩,rfl⟩;have ab:d.size<=s.size:=by rw[oU X];exact Lib.trimPrefix_le _ _
 have Y:=qh X;clear X;go_wp2_with fail;refine (ab6 d 46 W (by omega) (HM.o.below i)).mono ?_;rintro e U ⟨⟨fr,M,fd,rfl,E,A⟩,u⟩;have T:M.size<=d.size:=by
  rw[oU A];unfold aL;split
  .simp only[List.length_drop];show _<=d.data.toList.length;omega
  .simp
 obtain⟨L,hL⟩:=af (M.size);have C:=qh E;have R:=qh A;have B0:=B0.below u B0.lt;have i:=i.trans (u.mono i.size);have N:=qh hL;have aa:L<=2000000:=by omega
 clear E A u hL T;go_wp2_with (fail)
 go_loop [6] (λ v=>∃ (t:ByteArray) (k:Nat),v = ak t/\Hid (t.data.toList=M.data.toList ++ zeros k)/\k<=4 - L) (λ v=>4 - strLen v)
 case atStart=>exact⟨M,0,rfl,qh (by simp[zeros]),ay _⟩
 case round =>
  obtain⟨t,k,rfl,K,hk⟩:=hrel;have x:t.size=L+k:=by
   have:t.data.toList.length=L+k:=by rw[K.o,<- N.o];simp[zeros]
   exact this
  have V:t.size<=L+k:=by omega
  have S:L+k<=t.size:=by omega
  clear x;by_cases hlt:t.size<4
  .go_wp2_with (fail)
   go_round
   case rel =>
    refine⟨t ++ ⟨#[48]⟩,k+1,rfl,qh ?_,by omega⟩;rw[fO,K.o,List.append_assoc];unfold zeros;rw[List.replicate_succ']
   case measure =>
    have:(t ++ ⟨#[48]⟩:ByteArray).size=t.size+1:=by rw[ByteArray.size_append];rfl
    simp[strLen,this];omega
  .have HP:=qh (show t.data.toList=XZ (aL d.data.toList [46]).2.1 4 by
    rw[K.o,R.o];unfold XZ;rw[<- oU R.o,N.o,show k=4 - L by omega])
   clear K;obtain⟨a,y,r,D,ha⟩:=kN fr.data.toList;obtain⟨b,z,p,I,hb⟩:=kN t.data.toList;have O:=qh (r);have Q:=qh (p);have B:=qh D;have G:=qh I;have P:=qh (show jR s.data.toList=if y=true/\z=true/\t.size<=4/\a<=99999999999 then
     some (if d.size<s.size then -((a*10000+b:Nat):Int) else ((a*10000+b:Nat):Int)) else none by
    unfold jR;simp only[];rw[<- show d.data.toList=bb s.data.toList [45] from Y.o,<- HP.o,<- C.o,r,p];rfl)
   clear r p D I Y C R HP N V S hk;go_wp2_with fail;refine (oC fr U).mono ?_;rw[B.o];rintro e w2 ⟨rfl,rfl⟩;go_wp2_with fail;refine (oC t U).mono ?_;rw[G.o];rintro e w2 ⟨rfl,rfl⟩;clear B G O Q;obtain⟨dO,kD,eH,kE,ik,oV,iq,oW⟩:=ah.z4 B0;by_cases hcond:y=true/\z=true/\t.size<=4/\a<=99999999999
   .obtain⟨rfl,rfl,J,q⟩:=hcond;by_cases hneg:d.size<s.size
    .have o:=qh (show LH 2 (jR s.data.toList) = .tuple #[.agg #[ac ae 2,ac ae (-((a:Int)*10000+b)),ak ⟨#[]⟩,al none 0 0],am true] by
      rw[P.o,if_pos ⟨rfl,rfl,J,q⟩,if_pos hneg];show be #[.agg #[ac ae 2,ac ae (-((a*10000+b:Nat):Int)),_,_],_]=_;rw[show ((a*10000+b:Nat):Int)=(a:Int)*10000+b by omega])
     go_wp2;obtain⟨F,j,n,m⟩:=dW B0 i (ac ae 2) (ac ae (-((a:Int)*10000+b))) (ak ⟨#[]⟩) (al none 0 0);rw[<- j];clear j;obtain⟨l,c,f,g⟩:=ah.c4 n;refine bodyPost_ret (v:=.tuple #[.agg #[ac ae 2,ac ae (-((a:Int)*10000+b)),ak ⟨#[]⟩,al none 0 0],am true]) (by simp[results,Tryz.results335,go_sem,l,c,f,g]) rfl ⟨bP o.o.symm,m⟩
    .have o:=qh (show LH 2 (jR s.data.toList) = .tuple #[.agg #[ac ae 2,ac ae ((a:Int)*10000+b),ak ⟨#[]⟩,al none 0 0],am true] by
      rw[P.o,if_pos ⟨rfl,rfl,J,q⟩,if_neg hneg];show be #[.agg #[ac ae 2,ac ae ((a*10000+b:Nat):Int),_,_],_]=_;rw[show ((a*10000+b:Nat):Int)=(a:Int)*10000+b by omega])
     go_wp2;obtain⟨F,j,n,m⟩:=dW B0 i (ac ae 2) (ac ae ((a:Int)*10000+b)) (ak ⟨#[]⟩) (al none 0 0);rw[<- j];clear j;obtain⟨l,c,f,g⟩:=ah.c4 n;refine bodyPost_ret (v:=.tuple #[.agg #[ac ae 2,ac ae ((a:Int)*10000+b),ak ⟨#[]⟩,al none 0 0],am true]) (by simp[results,Tryz.results335,go_sem,l,c,f,g]) rfl ⟨bP o.o.symm,m⟩
   .have o:=qh (show LH 2 (jR s.data.toList) = .tuple #[.agg #[ac ae 0,ac ae 0,ak ⟨#[]⟩,al none 0 0],am false] by rw[P.o,if_neg hcond];rfl);rcases y with _ | _
    .clear hcond;go_wp2;obtain⟨F,j,n,m⟩:=dW B0 i (ac ae 0) (ac ae 0) (ak ⟨#[]⟩) (al none 0 0);rw[<- j];clear j;obtain⟨l,c,f,g⟩:=ah.c4 n;refine bodyPost_ret (v:=.tuple #[.agg #[ac ae 0,ac ae 0,ak ⟨#[]⟩,al none 0 0],am false]) (by simp[results,Tryz.results335,go_sem,l,c,f,g]) rfl ⟨bP o.o.symm,m⟩
    rcases z with _ | _
    .clear hcond;go_wp2;obtain⟨F,j,n,m⟩:=dW B0 i (ac ae 0) (ac ae 0) (ak ⟨#[]⟩) (al none 0 0);rw[<- j];clear j;obtain⟨l,c,f,g⟩:=ah.c4 n;refine bodyPost_ret (v:=.tuple #[.agg #[ac ae 0,ac ae 0,ak ⟨#[]⟩,al none 0 0],am false]) (by simp[results,Tryz.results335,go_sem,l,c,f,g]) rfl ⟨bP o.o.symm,m⟩
    by_cases J:t.size<=4
    .have q:99999999999<a:=by
      rcases aE 99999999999 a with h | h
      .exact h
      .exact absurd ⟨rfl,rfl,J,h⟩ hcond
     clear hcond;go_wp2;obtain⟨F,j,n,m⟩:=dW B0 i (ac ae 0) (ac ae 0) (ak ⟨#[]⟩) (al none 0 0);rw[<- j];clear j;obtain⟨l,c,f,g⟩:=ah.c4 n;refine bodyPost_ret (v:=.tuple #[.agg #[ac ae 0,ac ae 0,ak ⟨#[]⟩,al none 0 0],am false]) (by simp[results,Tryz.results335,go_sem,l,c,f,g]) rfl ⟨bP o.o.symm,m⟩
    .clear hcond;go_wp2;obtain⟨F,j,n,m⟩:=dW B0 i (ac ae 0) (ac ae 0) (ak ⟨#[]⟩) (al none 0 0);rw[<- j];clear j;obtain⟨l,c,f,g⟩:=ah.c4 n;refine bodyPost_ret (v:=.tuple #[.agg #[ac ae 0,ac ae 0,ak ⟨#[]⟩,al none 0 0],am false]) (by simp[results,Tryz.results335,go_sem,l,c,f,g]) rfl ⟨bP o.o.symm,m⟩
theorem ahM:(Tryz.prog.info? 9).map (λ i=>(i.zero,i.size,i.bytes))=some (some (.string ByteArray.empty),1,16):=by kernel_rfl
theorem YB {w:World} {B' n:Nat} {v:Value} {a:List ByteArray} (h:w.ownsRow B' 9 1 v n (a.map aw)):n=a.length/\((v = al none 0 0/\a = [])\/∃ g c,v = al (some ⟨g,0,none⟩) a.length c/\g<w.heap.size/\a.length<=c/\∀ j x,a[j]?=some x->w.cell? ⟨g,0+j,none⟩=some (ak x)):=by
 obtain⟨k,f⟩:=id h;have m:n=a.length:=by simp at k;omega
 subst m;refine⟨rfl,?_⟩;rcases f with ⟨rfl,i⟩ | ⟨g,b,l,rfl,p,e,e3,q,r⟩
 .exact .inl ⟨rfl,List.eq_nil_of_length_eq_zero i⟩
 .refine .inr ⟨g,b,rfl,?_,e3,λ j x o=>?_⟩
  .rcases aE g w.heap.size with d | d
   .exact d
   .rw[aR d] at e;cases e
  .have:=h.cells (g:=g) rfl j (ak x) (by simp[o])
   rwa [Addr.add_lit] at this
theorem OH {B' n:Nat} {v:Value} (f:List ByteArray) (a:ByteArray) (w:World) (h:w.ownsRow B' 9 1 v n (f.map aw)) (j:f.length<=140737488355328)
  (d:(ax (f.map (·.data.toList)) a.data.toList).length<=140737488355328) :
  Calls Tryz.prog 264 #[v,ak a] w λ e w'=>(∃ t:ByteArray,e = an (ak t)/\t.data.toList=ax (f.map (·.data.toList)) a.data.toList)/\IY w w':=by
 obtain⟨rfl,⟨rfl,rfl⟩ | ⟨g,c,rfl,m,o,b⟩⟩:=YB h
 .exact (Tryz.strings_Join_none none 0 a w).mono λ _ _ ⟨i,l⟩=>⟨⟨_,i,rfl⟩,l▸Below.refl _ _⟩
 .exact (Tryz.strings_Join g 0 c f a w b m j o d).mono λ _ _ ⟨i,k⟩=>⟨⟨_,i,rfl⟩,k⟩
def yO (l:List Int):List ByteArray:=l.map λ c=>⟨(iM c).toArray⟩
theorem GI (l:List Int):(yO l).map (·.data.toList)=l.map iM:=by simp[yO]
theorem OI {c:Int} (h:1<=c/\c<=999):(iM c).length<=4:=by
 rw[sO (by omega),ap];have:=iK 2 c.toNat (by omega);omega
theorem Dk:∀ (l:List Int),(∀ c∈l,1<=c/\c<=999)->(ax (l.map iM) [44]).length<=5*l.length
 | [],_=>by simp[Lib.join_nil]
 | [c],h=>by
  rw[a0,List.map_nil,Lib.join_one];have:=OI (h c (a1 ..));simp;omega
 | c :: d :: r,h=>by
  have e:ax ((c :: d :: r).map iM) [44]=iM c ++ 44 :: ax ((d :: r).map iM) [44]:=by
   simp only[a0];rw[bf,bf];simp[Lib.joinTail]
  have:=Dk (d :: r) (λ x a=>h x (bg _ a));have:=OI (h c (a1 ..));rw[e];simp only[aq,ap] at *;omega
theorem OJ (A:Option Addr) (l:List Int) (c B1:Nat) (w:World) (hl:l.length<=1000) (O:∀ c∈l,1<=c/\c<=999) (y:Reads w B1 1 A l.length (bI ae l)) (F:B1<=w.heap.size) (o:Tab w) :
  Calls Tryz.prog 260 #[al A l.length c] w λ e w'=>(∃ t:ByteArray,e = an (ak t)/\t.data.toList=Az l)/\IY w w':=by
 have T:=qh o;have S:=qh (y.more F);have P:=qh O;clear o y O;obtain⟨R,H,L,K,I⟩:=info_parts ahM;go_enter Tryz.func260,Tryz.ntmps260;go_wp2;go_loopw [3,8] (λ v i wr=>∃ k:Nat,k<=l.length/\i = ac ae k/\wr.ownsRow w.heap.size 9 1 v k ((yO (l.take k)).map aw)/\IY w wr) (λ _ i _=>l.length - (intOf i).toNat)
 case atStart=>exact⟨0,ay _,rfl,World.ownsRow_nil _ _ _ _,Below.refl _ _⟩
 case round =>
  obtain⟨k,hk,rfl,p,b⟩:=hrel;have s:=qh p;clear p;have Q:=b.size;by_cases hlt:k<l.length
  .obtain⟨ad,u,rfl,hb,C,n⟩:=(S.o.below b).at_ hlt;obtain⟨D,rfl⟩:=jm _ _ _ _ C;obtain⟨x,y⟩:=af (l[k]);have z:=P.o l[k] (a8 D);rw[y] at z n;obtain⟨ab,W⟩:=z;have X:=qh y;have J:=qh (T.o.below b);clear C y;go_wp2_with fail;refine (Bc x wr (by omega) (by omega) J.o).mono ?_;rintro e N ⟨⟨t,rfl,r⟩,d⟩;have E:=qh r;have a:=own_below s.o d;have M:=b.trans (d.mono Q);have U:=M.size;have G:t.size<=20:=by
    rw[oU r];obtain⟨m,rfl⟩:∃ m:Nat,x=m:=⟨x.toNat,by omega⟩;rw[lK];have:=iK 2 m (by omega);omega
   have V:=qh (show (yO (l.take (k+1))).map aw=(yO (l.take k)).map aw ++ [ak (⟨#[35]⟩ ++ t)] by
    rw[a6 D,X.o];unfold yO;rw[bh,bh];congr 1;show [aw _]=_;rw[vX (show (⟨#[35]⟩ ++ t:ByteArray).data.toList=iM x by rw[fO,E.o];rfl)])
   clear r n s d;go_wp2_with (at_builtin;refine wpList_append_own _ rfl _ _ 22 rfl w.heap.size 9 R (.string ByteArray.empty) 1 16 Tryz.underlying22 H L K I rfl (by decide) _ _ _ rfl (a.alloc _) ⟨N.heap.size,0,none⟩ 1 1 [.string (⟨#[35]⟩ ++ t)] rfl rfl ?c1 ?c2 ?c3 ?c4 ?c5 ?_)
   case c1=>intro j u hj;cases j <;> simp_all[go_sem]
   case c2=>intro u C;simp only[List.mem_singleton] at C;subst C;rfl
   case c3=>unfold maxLen;omega
   case c4=>omega
   case c5=>simp;omega
   intro Z w3 f B _;have q:IY w w3:=(M.alloc (by omega) _).grown B (by simp;omega) (λ g Y=>(a.lt g Y).1);have s:=qh (show w3.ownsRow w.heap.size 9 1 Z (k+1) ((yO (l.take (k+1))).map aw) by rw[V.o];exact f);clear f B a;go_wp2;go_roundw
   case rel=>exact⟨k+1,by omega,by go_num,s.o,q⟩
   case measure=>simp[intOf];omega
  .have HF:=qh (show wr.ownsRow w.heap.size 9 1 _ k ((yO l).map aw) by
    have h:=s.o
    rwa [ba (by omega)] at h)
   have aa:=Dk l P.o;clear s;go_wp2_with fail;refine (OH (yO l) ⟨#[44]⟩ wr HF.o (by unfold yO;simp;omega) (by rw[GI];show (ax _ [44]).length<=_;omega)).mono ?_;rintro e N ⟨⟨t,rfl,r⟩,d⟩;rw[GI] at r;have E:=qh (show t.data.toList=ax (l.map iM) [44] from r);have G:t.size<=5000:=by rw[oU E.o];omega
   have q:=b.trans (d.mono Q);clear r;go_wp2;go_ret;exact⟨⟨_,rfl,by rw[fO,fO,E.o];rfl⟩,q⟩
end Go.Proofs.YtcnagconagpkcaaGreatDoor
namespace Go.Proofs.YtcnagconagpkcaaGreatDoor
open Go.RowKit
theorem YC {a b c e d c':Int} (f:a=e) (g:b=d) (h:c=c'):Ending.returned (.tuple #[ac ae a,ac ae b,ac ae c]) = an (.tuple #[ac ae e,ac ae d,ac ae c']):=by rw[f,g,h]
theorem YD (y:Int) (w:World) (b:0<=y) (a:y<=10000) :
  KG 311 #[ac ae y] w (am (Cal.lp y)):=by
 go_enter Tryz.func311,Tryz.ntmps311;go_wp2
 all_goals (go_ret;exact⟨au (by simp_all[Cal.lp,Bool.beq_eq_decide_eq]),rfl⟩)
theorem uQ (y m:Int) (w:World) (b:0<=y) (a:y<=10000) :
  KG 301 #[ac ae y,ac ae m] w (ac ae (Cal.N9 y m)):=by
 go_enter Tryz.func301,Tryz.ntmps301;go_wp2_with (go_at_call 311;refine (YD _ _ b a).mono ?_;rintro e w' ⟨rfl,rfl⟩)
 all_goals (go_ret;exact⟨ag (by simp_all[Cal.N9]),rfl⟩)
theorem oD (y m d:Int) (w:World) (f:1600<=y) (b:y<=2400) (l:1<=m) (h:m<=12) (q:0<=d) (o:d<=40) :
  KG 275 #[ac ae y,ac ae m,ac ae d] w (ac ae (Cal.num y m d)):=by
 have n:=Cal.Tm y f b;go_enter Tryz.func275,Tryz.ntmps275;go_wp2
 go_loop [9,8] (λ k s=>∃ j:Int,1<=j/\j<=m/\k = ac ae j/\s = ac ae (Cal.base y+Cal.FT y j)) (λ k _=>(m - intOf k).toNat)
 case atStart=>exact⟨1,by omega,by omega,rfl,by rw[Cal.EG];unfold Cal.base;simp⟩
 case round =>
  obtain⟨j,a,c,rfl,rfl⟩:=hrel;have i:=Cal.QJ y j;have p:=Cal.FV y j;by_cases hlt:j<m
  .have cs:=Cal.nG y j a (by omega);have g:=qh cs;clear cs;go_wp2_with (go_at_call 301;refine (uQ _ _ _ (by omega) (by omega)).mono ?_;rintro e w' ⟨rfl,rfl⟩)
   go_round
   case rel=>exact⟨j+1,by omega,by omega,rfl,by rw[g.o,Int.add_assoc]⟩
   case measure=>simp[intOf];omega
  .obtain rfl:j=m:=by omega
   go_wp2;go_ret;exact⟨ag (by unfold Cal.num;rfl),rfl⟩
theorem Q7 (y m d:Int) (b:1600<=y) (a:y<=2400) (c:0<=d) (e:d<=40) : -200000<=Cal.num y m d/\Cal.num y m d<=200000:=by
 have:=Cal.Tm y b a;have:=Cal.QJ y m;unfold Cal.num;omega
theorem TD (y m:Int):Cal.num y m 1=Cal.base y+Cal.FT y m:=by unfold Cal.num;omega
theorem aeZ (y:Int):Cal.num y 1 1=Cal.base y:=by unfold Cal.num;rw[Cal.EG];omega
theorem Vk (n:Int) (w:World) (z : -25567<=n) (v:n<=84005) :
  KG 261 #[ac ae n] w (.tuple #[ac ae (Cal.cy n),ac ae (Cal.cm n),ac ae (Cal.cd n)]):=by
 obtain⟨s,l,i⟩:=Cal.XW z v;have c:∀ g:Int,Cal.base g<=n->1899<=g->g<=2199->Cal.Js n=g->KG 261 #[ac ae n] w (.tuple #[ac ae (Cal.cy n),ac ae (Cal.cm n),ac ae (Cal.cd n)]):=by
  intro g s l i A;have r:=Cal.abP z v;obtain⟨Z,X,T,U⟩:=r;have R:=qh A;clear A;by_cases hn:n<0
  all_goals
   have B:=qh R.o;unfold Cal.Js at B;go_enter Tryz.func261,Tryz.ntmps261;go_wp2
   go_loop [2] (λ t=>∃ y:Int,Cal.base y<=n/\1899<=y/\y<=2199/\t = ac ae y) (λ t=>(2200 - intOf t).toNat)
   case atStart =>
    refine⟨g,s,l,i,?_⟩;rw[<- B.o]
    first | rw[if_pos hn] | rw[if_neg (by omega)]
   case round =>
    obtain⟨y,W,Y,V,rfl⟩:=hrel;have b:=aeZ (y+1);have k:=Q7 (y+1) 1 1 (by omega) (by omega) (by omega) (by omega);obtain⟨E,O⟩:=k;by_cases hc:Cal.base (y+1)<=n
    .have o:Cal.num (y+1) 1 1<=n:=by omega
     have M:y+1<=2199:=by
      by_cases h:y+1<=2199
      .exact h
      .have:=Cal.x9;have:=Cal.mG (show 2200<=y+1 by omega);omega
     clear b;go_wp2_with (go_at_call 275;refine (oD _ _ _ _ (by omega) (by omega) (by omega) (by omega) (by omega) (by omega)).mono ?_;rintro e w' ⟨rfl,rfl⟩)
     go_round
     case rel=>exact⟨y+1,hc,by omega,M,rfl⟩
     case measure=>simp[intOf];omega
    .have o:n<Cal.num (y+1) 1 1:=by omega
     have Q:=Cal.CE y;have N:n<Cal.base y+Cal.yd y:=by omega
     clear b Q hc;go_wp2_with (go_at_call 275;refine (oD _ _ _ _ (by omega) (by omega) (by omega) (by omega) (by omega) (by omega)).mono ?_;rintro e w' ⟨rfl,rfl⟩)
     go_loop [3] (λ t=>∃ m:Int,1<=m/\m<=12/\t = ac ae m/\Cal.base y+Cal.FT y m<=n) (λ t=>(12 - intOf t).toNat)
     case atStart=>exact⟨1,by omega,by omega,rfl,by rw[Cal.EG];omega⟩
     case round =>
      obtain⟨m,x,u,rfl,G⟩:=hrel;have C:=TD y (m+1);have k:=Q7 y (m+1) 1 (by omega) (by omega) (by omega) (by omega);obtain⟨J,H⟩:=k;have p:=Q7 y m 1 (by omega) (by omega) (by omega) (by omega);obtain⟨S,I⟩:=p;by_cases hd:m<12/\Cal.base y+Cal.FT y (m+1)<=n
      .obtain⟨K,j⟩:=hd;have P:Cal.num y (m+1) 1<=n:=by omega
       clear C;go_wp2_with (go_at_call 275;refine (oD _ _ _ _ (by omega) (by omega) (by omega) (by omega) (by omega) (by omega)).mono ?_;rintro e w' ⟨rfl,rfl⟩)
       go_round
       case rel=>exact⟨m+1,by omega,by omega,rfl,j⟩
       case measure=>simp[intOf];omega
      .have F:n<Cal.base y+Cal.FT y m+Cal.N9 y m:=by
        by_cases h12:m=12
        .have:=Cal.nG y 12 (by omega) (by omega);have D:=Cal.QI y;subst h12;simp only[show (12:Int)+1=13 from rfl] at *;omega
        .have:=Cal.nG y m x u;omega
       have a:=Cal.FX G F x u;have f:=TD y m;have q:Hid (Cal.cy n=y/\Cal.cm n=m/\Cal.cd n=n - Cal.num y m 1+1):=⟨a.cy,a.cm,by rw[a.cd,f]⟩;have d:m<12->n<Cal.num y (m+1) 1:=λ h=>by omega
       clear hd C f a;by_cases h12:m<12
       all_goals
        first | have L:=d h12 | skip
        clear d;go_wp2_with (go_at_call 275;refine (oD _ _ _ _ (by omega) (by omega) (by omega) (by omega) (by omega) (by omega)).mono ?_;rintro e w' ⟨rfl,rfl⟩)
        go_ret3
        exact⟨YC q.o.1.symm q.o.2.1.symm q.o.2.2.symm,rfl⟩
 exact c _ s l i rfl
theorem OL (n:Int) (w:World) (a : -25567<=n) (b:n<=84005) :
  IE 343 #[ac ae n] w (.agg #[ac ae 6,ac ae n,ak ⟨#[]⟩,al none 0 0]):=by
 have b1:aN n (-25567) 84005=false:=lT (by omega) (by omega);go_enter Tryz.func343,Tryz.ntmps343;go_wp2_with (go_at_call 121;refine (aX _ _ _ _).mono ?_;rintro e w' ⟨rfl,rfl⟩);refine bodyPost_ret (v:=.agg #[ac ae 6,ac ae n,ak ⟨#[]⟩,al none 0 0]) (by simp[results,Tryz.results343,go_sem]) rfl ⟨rfl,by first | exact (Below.refl _ _).alloc (ao _) _ | exact (((Below.refl _ _).alloc (ao _) _).setCell (ao _) _)⟩
theorem LJ (n:Int) (w:World) (h:n < -25567\/84005<n) :
  IE 343 #[ac ae n] w (.agg #[ac ae 0,ac ae 0,ak ⟨#[]⟩,al none 0 0]):=by
 have b1:aN n (-25567) 84005=true:=mD (by omega);clear h;go_enter Tryz.func343,Tryz.ntmps343;go_wp2_with (go_at_call 121;refine (aX _ _ _ _).mono ?_;rintro e w' ⟨rfl,rfl⟩);refine bodyPost_ret (v:=.agg #[ac ae 0,ac ae 0,ak ⟨#[]⟩,al none 0 0]) (by simp[results,Tryz.results343,go_sem]) rfl ⟨rfl,by first | exact (Below.refl _ _).alloc (ao _) _ | exact (((Below.refl _ _).alloc (ao _) _).setCell (ao _) _)⟩
def dk (y m d:Int):Int:=if Cal.lW y m d=true then 6 else 0
def dn (y m d:Int):Int:=if Cal.lW y m d=true then Cal.num y m d else 0
theorem Dl {y m d:Int} (h:aN y 1800 2300=true\/aN m 1 12=true\/aN d 1 (Cal.N9 y m)=true):Cal.lW y m d=false:=by
 rw[a7];intro e;rw[Cal.uy] at e;simp only[aN,Bool.or_eq_true,decide_eq_true_eq] at h;omega
theorem YE (y m d:Int) (w:World) :
  IE 339 #[ac ae y,ac ae m,ac ae d] w (.agg #[ac ae (dk y m d),ac ae (dn y m d),ak ⟨#[]⟩,al none 0 0]):=by
 have a:Cal.lW y m d=false->dk y m d=0/\dn y m d=0:=λ h=>by simp[dk,dn,h]
 by_cases e1:aN y 1800 2300=true
 .obtain⟨f,c⟩:=a (Dl (.inl e1));rw[f,c];clear f c a;go_enter Tryz.func339,Tryz.ntmps339;go_wp2_with (go_at_call 121;refine (aX _ _ _ _).mono ?_;rintro e w' ⟨rfl,rfl⟩);refine bodyPost_ret (v:=.agg #[ac ae 0,ac ae 0,ak ⟨#[]⟩,al none 0 0]) (by simp[results,Tryz.results339,go_sem]) rfl ⟨rfl,by first | exact (Below.refl _ _).alloc (ao _) _ | exact (((Below.refl _ _).alloc (ao _) _).setCell (ao _) _)⟩
 have p:aN y 1800 2300=false:=by simpa using e1
 clear e1;by_cases e2:aN m 1 12=true
 .obtain⟨f,c⟩:=a (Dl (.inr (.inl e2)));rw[f,c];clear f c a;go_enter Tryz.func339,Tryz.ntmps339;go_wp2_with (go_at_call 121;refine (aX _ _ _ _).mono ?_;rintro e w' ⟨rfl,rfl⟩);refine bodyPost_ret (v:=.agg #[ac ae 0,ac ae 0,ak ⟨#[]⟩,al none 0 0]) (by simp[results,Tryz.results339,go_sem]) rfl ⟨rfl,by first | exact (Below.refl _ _).alloc (ao _) _ | exact (((Below.refl _ _).alloc (ao _) _).setCell (ao _) _)⟩
 have o:aN m 1 12=false:=by simpa using e2
 clear e2;have C:1800<=y/\y<=2300:=by simp only[aN,a2,decide_eq_false_iff_not] at p;omega
 have x:1<=m/\m<=12:=by simp only[aN,a2,decide_eq_false_iff_not] at o;omega
 obtain⟨G,E⟩:=C;obtain⟨s,r⟩:=x;by_cases e3:aN d 1 (Cal.N9 y m)=true
 .obtain⟨f,c⟩:=a (Dl (.inr (.inr e3)));rw[f,c];clear f c a;go_enter Tryz.func339,Tryz.ntmps339;go_wp2_with (first | (go_at_call 121;refine (aX _ _ _ _).mono ?_;rintro e w' ⟨rfl,rfl⟩) | (go_at_call 301;refine (uQ _ _ _ (by omega) (by omega)).mono ?_;rintro e w' ⟨rfl,rfl⟩));refine bodyPost_ret (v:=.agg #[ac ae 0,ac ae 0,ak ⟨#[]⟩,al none 0 0]) (by simp[results,Tryz.results339,go_sem]) rfl ⟨rfl,by first | exact (Below.refl _ _).alloc (ao _) _ | exact (((Below.refl _ _).alloc (ao _) _).setCell (ao _) _)⟩
 have n:aN d 1 (Cal.N9 y m)=false:=by simpa using e3
 clear e3;have B:1<=d/\d<=Cal.N9 y m:=by simp only[aN,a2,decide_eq_false_iff_not] at n;omega
 have l:=Cal.FV y m;obtain⟨t,u⟩:=B;have F:d<=40:=by omega
 have i:=Cal.UQ s r t u;have g:Cal.lW y m d=decide (1900<=y/\y<=2199):=by
  rw[Bool.eq_iff_iff,Cal.uy];simp only[decide_eq_true_eq];constructor
  .exact λ h=>h.1
  .exact λ h=>⟨h,⟨s,r⟩,t,u⟩
 clear l a;by_cases hr:1900<=y/\y<=2199
 .have f:dk y m d=6:=by simp[dk,g,hr]
  have c:dn y m d=Cal.num y m d:=by simp[dn,g,hr]
  obtain⟨k,D⟩:=i.2 hr;rw[f,c];clear f c g i hr;go_enter Tryz.func339,Tryz.ntmps339;go_wp2_with (first | (go_at_call 121;refine (aX _ _ _ _).mono ?_;rintro e w' ⟨rfl,rfl⟩) | (go_at_call 301;refine (uQ _ _ _ (by omega) (by omega)).mono ?_;rintro e w' ⟨rfl,rfl⟩) | (go_at_call 275;refine (oD _ _ _ _ (by omega) (by omega) (by omega) (by omega) (by omega) (by omega)).mono ?_;rintro e w' ⟨rfl,rfl⟩));refine (OL _ _ k D).mono ?_;rintro e w1 ⟨rfl,b⟩;obtain⟨q,z⟩:=adf b;have A:w.heap.size+1<=w1.heap.size:=by have:=b.size;simpa using this
  have j:IY w w1:=((Below.refl _ _).alloc (ao _) _).trans (b.mono (by simp));go_wp2;refine bodyPost_ret (v:=.agg #[ac ae 6,ac ae (Cal.num y m d),ak ⟨#[]⟩,al none 0 0]) (by simp[results,Tryz.results339,go_sem,q]) rfl ⟨rfl,by repeat' (first | exact j | exact ao _ | apply Below.setCell)⟩
 .have f:dk y m d=0:=by simp[dk,g,hr]
  have c:dn y m d=0:=by simp[dn,g,hr]
  have k:Cal.num y m d < -25567\/84005<Cal.num y m d:=by
   have:=mt i.1 hr;omega
  rw[f,c];clear f c g i hr;have R1:=qh k;clear k;go_enter Tryz.func339,Tryz.ntmps339;go_wp2_with (first | (go_at_call 121;refine (aX _ _ _ _).mono ?_;rintro e w' ⟨rfl,rfl⟩) | (go_at_call 301;refine (uQ _ _ _ (by omega) (by omega)).mono ?_;rintro e w' ⟨rfl,rfl⟩) | (go_at_call 275;refine (oD _ _ _ _ (by omega) (by omega) (by omega) (by omega) (by omega) (by omega)).mono ?_;rintro e w' ⟨rfl,rfl⟩));refine (LJ _ _ R1.o).mono ?_;rintro e w1 ⟨rfl,b⟩;obtain⟨q,z⟩:=adf b;have A:w.heap.size+1<=w1.heap.size:=by have:=b.size;simpa using this
  have j:IY w w1:=((Below.refl _ _).alloc (ao _) _).trans (b.mono (by simp));go_wp2;refine bodyPost_ret (v:=.agg #[ac ae 0,ac ae 0,ak ⟨#[]⟩,al none 0 0]) (by simp[results,Tryz.results339,go_sem,q]) rfl ⟨rfl,by repeat' (first | exact j | exact ao _ | apply Below.setCell)⟩
end Go.Proofs.YtcnagconagpkcaaGreatDoor
namespace Go.Proofs.YtcnagconagpkcaaGreatDoor
open Go.RowKit Dig Vtx
theorem xB (s o n:ByteArray) (w:World) (h:s.size<=2000000) (b:1<=o.size) (d:n.size<=2) (a:Mx w) :
  Calls Tryz.prog 259 #[ak s,ak o,ak n] w λ e w'=>(∃ t:ByteArray,e = an (ak t)/\t.data.toList=a3 s.data.toList o.data.toList n.data.toList)/\IY w w':=by
 obtain⟨m,a⟩:=a;have g:=bd o b s.size s (ao _);have:Lib.countB s o*n.size<=s.size*2:=Nat.mul_le_mul g d;exact (Tryz.strings_ReplaceAll s o n m w (by omega) a b (by omega)).mono λ _ _ ⟨c,f⟩=>⟨⟨_,c,rfl⟩,f⟩
theorem TE (s:List UInt8):(a3 s [39] [39,39]).length<=2*s.length:=by
 rw[lN (by simp),DV]
 induction s with
 | nil=>simp[subst1]
 | cons b r ih =>
  have e:subst1 39 [39,39] (b :: r)=(if b=39 then [39,39] else [b]) ++ subst1 39 [39,39] r:=by simp[subst1]
  rw[e,aq,ap];split <;> simp <;> omega
theorem OM (k n:Int) (s:ByteArray) (l:List Int) (S:List UInt8) (A:Option Addr) (c B1:Nat) (w:World) (V:s.data.toList=S) (hq:WM k n S l) (hl:l.length<=1000) (hs:s.size<=1000)
  (X:Reads w B1 1 A l.length (bI ae l)) (E:B1<=w.heap.size) (q:Tab w) (T:Mx w) :
  Calls Tryz.prog 236 #[.agg #[ac ae k,ac ae n,ak s,al A l.length c]] w λ e w'=>(∃ t:ByteArray,e = an (ak t)/\t.data.toList=showT k n S l)/\IY w w':=by
 have z:=qh q;have HM:=qh T;have HX:=qh (X.more E);have R:=qh V;clear q T X V E;have F:∀ o:Obj,IY w (w.alloc o):=λ o=>(Below.refl _ _).alloc (ao _) _;have b:=qh F;clear F;cases hq with
 | none_ =>
  go_enter Tryz.func236,Tryz.ntmps236;go_wp2;go_ret;exact⟨⟨_,rfl,rfl⟩,b.o _⟩
 | word p j =>
  have i1:∀ w,(Instr.index 348 (.agg #[ak ⟨#[]⟩,ak ⟨#[100,111,110,116,107,110,111,119]⟩,ak ⟨#[114,101,102,117,115,101,100]⟩,ak ⟨#[110,111,97,110,115,119,101,114]⟩]) (ac ae 1)).run Tryz.prog w = .ok (ak ⟨#[100,111,110,116,107,110,111,119]⟩) w:=λ _=>by kernel_rfl
  have i2:∀ w,(Instr.index 348 (.agg #[ak ⟨#[]⟩,ak ⟨#[100,111,110,116,107,110,111,119]⟩,ak ⟨#[114,101,102,117,115,101,100]⟩,ak ⟨#[110,111,97,110,115,119,101,114]⟩]) (ac ae 2)).run Tryz.prog w = .ok (ak ⟨#[114,101,102,117,115,101,100]⟩) w:=λ _=>by kernel_rfl
  have i3:∀ w,(Instr.index 348 (.agg #[ak ⟨#[]⟩,ak ⟨#[100,111,110,116,107,110,111,119]⟩,ak ⟨#[114,101,102,117,115,101,100]⟩,ak ⟨#[110,111,97,110,115,119,101,114]⟩]) (ac ae 3)).run Tryz.prog w = .ok (ak ⟨#[110,111,97,110,115,119,101,114]⟩) w:=λ _=>by kernel_rfl
  obtain rfl | rfl | rfl:n=1\/n=2\/n=3:=by omega
  all_goals
   go_enter Tryz.func236,Tryz.ntmps236;go_wp2;go_ret;exact⟨⟨_,rfl,rfl⟩,b.o _⟩
 | num p j =>
  have HR:=qh (λ w'=>GG n w' p j);go_enter Tryz.func236,Tryz.ntmps236;go_wp2_with fail;refine (HR.o _ (z.o.below (b.o _))).mono ?_;rintro e u ⟨⟨t,rfl,f⟩,g⟩;have a:=(b.o _).trans (g.mono (b.o _).size);have i:=qh f;clear f g;go_wp2;go_ret;exact⟨⟨_,rfl,i.o⟩,a⟩
 | text S =>
  go_enter Tryz.func236,Tryz.ntmps236;go_wp2_with fail;refine (xB s ⟨#[39]⟩ ⟨#[39,39]⟩ _ (by omega) (ao 1) (ao 2) (HM.o.below (b.o _))).mono ?_;rintro e u ⟨⟨t,rfl,f⟩,g⟩;rw[R.o] at f;have a:=(b.o _).trans (g.mono (b.o _).size);have i:=qh (show t.data.toList=a3 S [39] [39,39] from f);have H:t.size<=2000:=by
   rw[oU i.o];have p:=TE S;have j:S.length=s.size:=by rw[<- R.o];rfl
   omega
  clear f g;go_wp2;go_ret;exact⟨⟨_,rfl,by rw[fO,fO,i.o];rfl⟩,a⟩
 | code p j =>
  go_enter Tryz.func236,Tryz.ntmps236;go_wp2_with fail;refine (Bc n _ (by omega) (by omega) (z.o.below (b.o _))).mono ?_;rintro e u ⟨⟨t,rfl,f⟩,g⟩;have a:=(b.o _).trans (g.mono (b.o _).size);have i:=qh f;have H:t.size<=20:=by
   rw[oU f];obtain⟨m,rfl⟩:∃ m:Nat,n=m:=⟨n.toNat,by omega⟩;rw[lK];have:=iK 2 m (by omega);omega
  clear f g;go_wp2;go_ret;exact⟨⟨_,rfl,by rw[fO,i.o];rfl⟩,a⟩
 | set h =>
  have HC:=qh h;clear h;go_enter Tryz.func236,Tryz.ntmps236;go_wp2_with fail;refine (OJ A l c w.heap.size _ hl HC.o (HX.o.below (b.o _)) (b.o _).size (z.o.below (b.o _))).mono ?_;rintro e u ⟨⟨t,rfl,f⟩,g⟩;have a:=(b.o _).trans (g.mono (b.o _).size);have i:=qh f;clear f g;go_wp2;go_ret;exact⟨⟨_,rfl,i.o⟩,a⟩
 | day p j =>
  obtain⟨y,m,d,W,U,Q,hy,J,hd,N,hn⟩:=JK p j;have B:=qh (And.intro W (And.intro U Q));have I:=qh (And.intro (uA (w:=4) (n:=y) (iK 3 y hy)) (And.intro (uA (w:=2) (n:=m) (iK 1 m J)) (uA (w:=2) (n:=d) (iK 1 d hd))));have M:=qh (λ w'=>Vk n w' p j);clear W U Q N hn;go_enter Tryz.func236,Tryz.ntmps236;go_wp2_with fail;refine (M.o _).mono ?_;rw[B.o.1,B.o.2.1,B.o.2.2];rintro e u ⟨rfl,rfl⟩;have O:=b.o (.cells #[ac ae 6,ac ae n,ak s,al A ([]:List Int).length c] 65 (0,0));go_wp2_with fail;refine (uP y 4 _ (by omega) (by omega) (by omega) (z.o.below (b.o _))).mono ?_;rintro e u ⟨⟨t1,rfl,v⟩,C⟩;have a:=(b.o _).trans (C.mono (b.o _).size);have K:=qh v;have ab:t1.size<=4:=by rw[oU v,I.o.1];exact ao _
  clear v C O;go_wp2_with fail;refine (uP m 2 u (by omega) (by omega) (by omega) (z.o.below a)).mono ?_;rintro e Z ⟨⟨t2,rfl,x⟩,D⟩;have a:=a.trans (D.mono a.size);have L:=qh x;have aa:t2.size<=2:=by rw[oU x,I.o.2.1];exact ao _
  clear x D;go_wp2_with fail;refine (uP d 2 Z (by omega) (by omega) (by omega) (z.o.below a)).mono ?_;rintro e w3 ⟨⟨t3,rfl,r⟩,G⟩;have a:=a.trans (G.mono a.size);have P:=qh r;have Y:t3.size<=2:=by rw[oU r,I.o.2.2];exact ao _
  clear r G;go_wp2;go_ret;refine⟨⟨_,rfl,?_⟩,a⟩;show _=zo n;unfold zo;rw[B.o.1,B.o.2.1,B.o.2.2];simp only[fO,K.o,L.o,P.o];rfl
 | bool p j =>
  obtain rfl | rfl:n=0\/n=1:=by omega
  all_goals
   go_enter Tryz.func236,Tryz.ntmps236;go_wp2_with fail;refine (Tryz.strconv_FormatBool _ _).mono ?_;rintro e u ⟨rfl,rfl⟩;go_wp2;go_ret;exact⟨⟨_,rfl,by decide +kernel⟩,b.o _⟩
theorem zB {x:Val} (h:bG x=0):WM x.k x.n x.s.data.toList x.l/\x.l.length<=40/\x.s.size<=200:=by
 unfold bG at h;by_cases h1:aN x.k 0 7=true
 .rw[if_pos h1] at h;cases h
 rw[if_neg h1] at h;by_cases h2:kU x=true
 .rw[if_pos h2] at h;cases h
 rw[if_neg h2] at h;by_cases h3:aN x.n (yV x.k) (yX x.k)=true
 .rw[if_pos h3] at h;cases h
 rw[if_neg h3] at h;by_cases h4:200<x.s.size\/40<x.l.length
 .rw[if_pos h4] at h;cases h
 rw[if_neg h4] at h;by_cases h5:BV x.s=true
 .rw[if_pos h5] at h;cases h
 rw[if_neg h5] at h;by_cases h6:x.l.any dP=true
 .rw[if_pos h6] at h;cases h
 clear h h5;have a:∀ c∈x.l,1<=c/\c<=999:=by
  intro c a;rw[Bool.not_eq_true,List.any_eq_false] at h6;have:=h6 c a;simp only[dP,aN,Bool.or_eq_true,decide_eq_true_eq,not_or] at this;omega
 simp only[not_or] at h4;refine⟨?_,by omega,by omega⟩;simp only[aN,Bool.or_eq_true,decide_eq_true_eq,not_or] at h1 h3;obtain⟨k,n,s,l⟩:=x;simp only[kU] at h2;simp only at h1 h3 a;rw[aM] at h2;show WM k n s.data.toList l;generalize s.data.toList=S at h2;clear h4 h6;have b:k=0\/k=1\/k=2\/k=3\/k=4\/k=5\/k=6\/k=7:=by omega
 rcases b with rfl | rfl | rfl | rfl | rfl | rfl | rfl | rfl
 all_goals simp[Jg] at h2
 .obtain⟨rfl,rfl,rfl⟩:=h2;exact .none_
 .obtain⟨rfl,rfl⟩:=h2;simp[yV,yX] at h3;exact .word (by omega) (by omega)
 .obtain⟨rfl,rfl⟩:=h2;simp[yV,yX] at h3;exact .num (by omega) (by omega)
 .obtain⟨rfl,rfl⟩:=h2;exact .text _
 .obtain⟨rfl,rfl⟩:=h2;simp[yV,yX] at h3;exact .code (by omega) (by omega)
 .obtain⟨rfl,rfl⟩:=h2;exact .set a
 .obtain⟨rfl,rfl⟩:=h2;simp[yV,yX] at h3;exact .day (by omega) (by omega)
 .obtain⟨rfl,rfl⟩:=h2;simp[yV,yX] at h3;exact .bool (by omega) (by omega)
end Go.Proofs.YtcnagconagpkcaaGreatDoor
namespace Go.Proofs.YtcnagconagpkcaaGreatDoor
open Vtx
theorem LK {n:Int} (a : -9223372036854775808<=n) (b:n<=9223372036854775807):(aD n).length<=21:=Lib.itoa_length_le n a b
theorem EK (w:Nat) {n:Int} (a : -9223372036854775808<=n) (b:n<=9223372036854775807):(pF w n).length<=w+21:=by
 unfold pF;have:=LK a b;rw[aq];simp only[Dig.zeros,List.length_replicate];omega
theorem ab8 (l:List UInt8) (c:UInt8):(aW l c).length<=l.length:=by
 unfold aW;rw[bi];have:=(List.dropWhile_suffix (p:=(· == c)) (l:=l.reverse)).length_le
 rwa [bi] at this
theorem ab9 {n:Int} (b : -999999999999999<=n) (c:n<=999999999999999):(qR n).length<=100:=by
 have f:0<=oO n/\oO n<=999999999999999:=by unfold oO;split <;> omega
 have d:=LK (n:=oO n / 10000) (by omega) (by omega);have e:(jC (oO n % 10000)).length<=25:=bj (ab8 _ _) (EK 4 (by omega) (by omega));unfold qR;rw[aq,aq];have e3:(if n<0 then ([45]:List UInt8) else []).length<=1:=by split <;> simp
 have a:(if jC (oO n % 10000) = [] then [] else 46 :: jC (oO n % 10000)).length<=26:=by
  split
  .simp
  .rw[ap];omega
 omega
theorem TF {v:Val} (h:bG v=0):(showT v.k v.n v.s.data.toList v.l).length<=500:=by
 obtain⟨b,d,e⟩:=zB h;have c:v.s.data.toList.length<=200:=by simpa using e
 generalize v.s.data.toList=S at b c;generalize v.k=k at b;generalize v.n=n at b;generalize v.l=l at b d;cases b with
 | none_=>decide
 | word h1 h2 =>
  show (XY n).length<=500;unfold XY;split
  .decide
  split <;> decide
 | num h1 h2=>exact bj (ab9 h1 h2) (by decide)
 | text s =>
  show (Oc S).length<=500;unfold Oc;have:=TE S;rw[aq,ap,bk];omega
 | code h1 h2 =>
  show (iM n).length<=500;unfold iM;have:=LK (n:=n) (by omega) (by omega);rw[ap];omega
 | set hc =>
  show (Az l).length<=500;unfold Az;have:=Dk l hc;rw[aq,ap,bk];omega
 | day h1 h2 =>
  show (zo n).length<=500;have a:=Cal.Oa h1 h2;obtain⟨b1,b2⟩:=Cal.zn h1 h2 a.year.1 a.year.2;have f:=Cal.FV (Cal.cy n) (Cal.cm n);have b3:=a.m1;have m:=a.m2;have j:=a.d1;have o:=a.d2;have g:=EK 4 (n:=Cal.cy n) (by omega) (by omega);have i:=EK 2 (n:=Cal.cm n) (by omega) (by omega);have e3:=EK 2 (n:=Cal.cd n) (by omega) (by omega);unfold zo;simp only[aq,ap,av];omega
 | bool h1 =>
  show (if n=1 then qX else nH).length<=500;split <;> decide
theorem aca {p:Prop} [Decidable p] {a b:List UInt8} {k:Nat} (c:a.length<=k) (d:b.length<=k):(if p then a else b).length<=k:=by split <;> assumption
theorem OO (a:Int):(dS a).length<=3:=by
 unfold dS
 iterate 13 refine aca (by decide) ?_
 decide
theorem TG (a:Int):(vN a).length<=8:=by
 unfold vN;split
 .rename_i p b;have:∀ p∈wZ,p.2.length<=8:=by decide
  exact this p (List.mem_of_find?_eq_some b)
 .decide
theorem TI (a:Int):(lC a).length<=5:=by
 unfold lC;rw[a4];rcases h:Lc[a.toNat]? with _ | l
 .decide
 .have:∀ p∈Lc,p.length<=5:=by decide
  exact this l (bl h)
theorem zC (b:Bool) (t:List UInt8):(sF b t).length<=t.length+2:=by
 unfold sF;split
 .simp
 .omega
theorem rP (c:Int):∀ {ar:List Ex},(∀ a∈ar,a.text.length+100<=1000*a.parts)->((insL c ar).map List.length).sum+98*ar.length<=1000*aI ar/\∀ i,((insL c ar).getD i []).length<=1000*aI ar+2
 | [],_=>by simp[insL,aI]
 | a :: r,h=>by
  have d:=rP c (λ b e=>h b (bg _ e)) (ar:=r);have f:=h a (a1 ..);have g:=zC (decide (iL a<c)) a.text;rw[insL,aI];refine⟨by simp only[a0,List.sum_cons,ap];omega,λ i=>?_⟩;cases i with
  | zero=>simp only[List.getD_cons_zero];omega
  | succ i =>
   have:=d.2 i;simp only[List.getD_cons_succ];omega
theorem pU (a:Int) (ar:List Ex):(insL a ar).length=ar.length:=by rw[sG];simp
theorem Bf {s:ByteArray} (h:aV s.data.toList=true):s.data.toList.length<=16:=by
 unfold aV at h;simp only[Bool.and_eq_true,decide_eq_true_iff] at h;exact h.1.1.1.2
theorem sS {e:Ex} (h:jQ e=0) (a:e.k=2\/e.k=3\/e.k=5):aV e.nm.data.toList=true:=by
 unfold jQ yI at h;by_cases c1:aN e.k 1 5=true
 .rw[if_pos c1] at h;exact absurd h (by decide)
 rw[if_neg c1,if_neg (by omega)] at h;by_cases c3:e.k=5/\aN e.op 1 6=true
 .rw[if_pos c3] at h;exact absurd h (by decide)
 rw[if_neg c3] at h;by_cases c4:dH e.k e.op e.nm e.v e.ar.length=true
 .rw[if_pos c4] at h;exact absurd h (by decide)
 rw[if_neg c4,if_neg (by omega),if_neg (by omega)] at h;by_cases c5:aV e.nm.data.toList=true
 .exact c5
 .rw[if_neg c5] at h;exact absurd h (by decide)
theorem xC {e:Ex} (h:jQ e=0) (a:e.k=1):bG e.v=0:=by
 unfold jQ yI at h;by_cases c1:aN e.k 1 5=true
 .rw[if_pos c1] at h;exact absurd h (by decide)
 rw[if_neg c1,if_neg (by omega),if_neg (by omega)] at h;by_cases c4:dH e.k e.op e.nm e.v e.ar.length=true
 .rw[if_pos c4] at h;exact absurd h (by decide)
 rw[if_neg c4,if_pos a] at h;split at h
 .exact absurd h (by decide)
 .exact h
theorem TJ (e:Ex):e.fault=0->e.text.length+100<=1000*e.parts:=by
 induction e using Ex.ind with
 | h e ih =>
  intro v;have g:=nX v;have P:=kG g;have x:=nY v;have c:=λ a h=>ih a h (x a h);rw[text_eq,parts_eq];by_cases k1:e.k=1
  .rw[if_pos k1];have:=TF (xC g k1);omega
  rw[if_neg k1];by_cases k2:e.k=2
  .rw[if_pos k2];have:=Bf (sS g (.inl k2));omega
  rw[if_neg k2];by_cases k3:e.k=3
  .rw[if_pos k3];have:=Bf (sS g (.inr (.inl k3)));simp only[aq,ap,av];omega
  rw[if_neg k3];have t:=rP 0 c;by_cases k5:e.k=5
  .rw[if_pos k5];have s:=Bf (sS g (.inr (.inr k5)));have d:=TI e.op;have p:=t.2 0;simp only[aq,ap,av];omega
  rw[if_neg k5];have u:=xQ e.ar;split
  .have s:=(rP 2 c).1;have d:=sH (insL 2 e.ar) [32,111,114,32];rw[pU] at d;simp only[ap,av] at d;omega
  split
  .have s:=(rP 3 c).1;have d:=sH (insL 3 e.ar) [32,97,110,100,32];rw[pU] at d;simp only[ap,av] at d;omega
  have p:=(rP 3 c).2;have B:=(rP 5 c).2;have A:=(rP 6 c).2;have w:=(rP 7 c).2;have y:=OO e.op;have f:∀ (k j:Int),((insL k e.ar).getD 0 []).length+((insL j e.ar).getD 1 []).length<=1000*aI e.ar+4:=by
   intro k j;have q:∀ (l:Int),∀ i,∀ a,e.ar[i]?=some a->((insL l e.ar).getD i []).length<=1000*a.parts+2:=λ l i a m=>by
    rw[sG,a4,bm,m];have:=zC (decide (iL a<l)) a.text;have:=c a (bl m);simp only[Option.map_some,Option.getD_some];omega
   have z:∀ (l:Int),∀ i,e.ar[i]?=none->((insL l e.ar).getD i []).length=0:=λ l i m=>by
    rw[sG,a4,bm,m];rfl
   match hr:e.ar with
   | []=>simp[insL]
   | [a] =>
    have n:=q k 0 a (by rw[hr];rfl);have o:=z j 1 (by rw[hr];rfl);rw[hr] at n o;simp only[aI];omega
   | a :: b :: r =>
    have n:=q k 0 a (by rw[hr];rfl);have o:=q j 1 b (by rw[hr];rfl);rw[hr] at n o;simp only[aI];omega
  split
  .have:=p 0;simp only[aq,ap,av];omega
  split
  .have:=f 5 5;simp only[aq,ap,av];omega
  split
  .have:=f 5 6;simp only[aq,ap,av];omega
  split
  .have:=f 6 7;simp only[aq,ap,av];omega
  split
  .split
   .have:=t.2 0;simp only[aq,ap,av];omega
   .have:=w 0;simp only[aq,ap,av];omega
  .have s:=(rP 1 c).1;have d:=sH (insL 1 e.ar) [44,32];have p:=TG e.op;rw[pU] at d;simp only[aq,ap,av] at *;omega
end Go.Proofs.YtcnagconagpkcaaGreatDoor
