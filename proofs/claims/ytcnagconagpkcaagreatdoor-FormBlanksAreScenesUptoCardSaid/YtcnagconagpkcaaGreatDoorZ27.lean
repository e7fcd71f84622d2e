/- Lemmas. -/
import Derived.Test.YtcnagconagpkcaaGreatDoorZ26
import Derived.Test.YtcnagconagpkcaaGreatDoorCards
import Derived.Test.YtcnagconagpkcaaGreatDoorTie
import Derived.OpenShut
import Derived.Deep.DeepHandedRow
import Derived.Deep.DeepLaidRun
import Derived.Lib.LaidTab
import Derived.Stop.LaidErr
import Derived.PinnedBridge
import Derived.Shelf.Vars
open Go.DataW renaming trod->ab, trod_struct->an, TrodAll->av
open List.cons renaming injEq->ac
open List renaming drop_zero->ad, drop_succ_cons->ae, take_succ_cons->ak, take_zero->al, mem_cons->ao, map_cons->ap, sum_cons->aq, mem_append_left->aw
open Go.laidMet renaming tail->am
namespace Go.Proofs.YtcnagconagpkcaaGreatDoor
open Go.Deep Go.ChangeShapes Go.WideShapes Go.ChangeAt Go.RowKit Go.Joins
theorem MP:∀ l:List ItemD,(l.map ItemD.cu).sum=QU l
 | []=>by simp[QU]
 | x :: r=>by rw[ap,aq,MP r,QU]
theorem Dy:∀ l:List Ex,(l.map Ex.bl).sum=ER l
 | []=>by simp[ER]
 | x :: r=>by rw[ap,aq,Dy r,ER]
def Small (M:Nat) (N:List aj):Prop:=∀ d∈N,d.it.cu<=M
mutual
theorem ItemD.WG {M:Nat}:∀ (f:ItemD) (a:List aj) (b c g:Int) (e:List ByteArray),Small M a->f.cu<=M->Small M (f.add a b c g e)
 | .mk k nm iff ph items sh cnt over ans cmp,a,b,c,g,e,h,h1=>by
  have i:=h1;rw[ItemD.cu] at h1;rw[ItemD.add];refine zy items _ _ _ _ _ (λ d j=>?_) (by omega);rcases List.mem_append.1 j with q | q
  .exact h d q
  .rw[List.mem_singleton] at q;subst q;exact i
theorem zy {M:Nat}:∀ (l:List ItemD) (a:List aj) (b c e:Int) (d:List ByteArray),Small M a->QU l<=M->Small M (kW l a b c e d)
 | [],a,_,_,_,_,h,_=>by rw[kW];exact h
 | it :: r,a,b,c,e,d,h,h1=>by
  rw[QU] at h1;rw[kW];split
  .exact h
  .exact zy r _ _ _ _ _ (ItemD.WG it a b c e d h (by omega)) (by omega)
end
theorem abY {N:List aj} (h:Small 1048576 N):zT N:=by
 intro d f;have a:=h d f;rw[Uh] at a;have key:∀ {l:List Ex},ER l<=1048576->∀ e∈l,e.parts<=1000000:=λ i e c=>by have:=tK e;have:=BM c;omega
 have b:=a;unfold rG.cu at b;refine⟨key (by omega),key (by omega),key (by omega),key (by omega),λ r g=>?_⟩;have:=MN g;have:=tK r.must;omega
instance:Inhabited xe:=⟨⟨0,[],false,false⟩⟩
instance:Inhabited fD:=⟨⟨.empty,[]⟩⟩
instance:Inhabited vS:=⟨⟨default,false,[]⟩⟩
instance:Inhabited ItemD:=⟨adp.it⟩
theorem amG {α:Type}:∀ {cs:List α},cs.length=5->∃ d e c b a,cs = [d,e,c,b,a]
 | [d,e,c,b,a],_=>⟨d,e,c,b,a,rfl⟩
theorem adN {α:Type}:∀ {cs:List α},cs.length=10->∃ i j h b a g f d c e,cs = [i,j,h,b,a,g,f,d,c,e]
 | [i,j,h,b,a,g,f,d,c,e],_=>⟨i,j,h,b,a,g,f,d,c,e,rfl⟩
theorem ai7 {α:Type}:∀ {cs:List α},cs.length=19->∃ o l n m f k i j g q c b a h p s e d r,cs = [o,l,n,m,f,k,i,j,g,q,c,b,a,h,p,s,e,d,r]
 | [o,l,n,m,f,k,i,j,g,q,c,b,a,h,p,s,e,d,r],_=>⟨o,l,n,m,f,k,i,j,g,q,c,b,a,h,p,s,e,d,r,rfl⟩
section
variable {H:Type} {enc:TypeId × Value->H} {W:World}
theorem yz {a m b:Nat} {T:TypeId} {cs:List Value} {y:DataW H × List MemPlace} (h:ab enc Tryz.prog W 0 (λ _=>true) true a T (cs.take m)=some y) (e:m=b):ab enc Tryz.prog W 0 (λ _=>true) true a T (cs.take b)=some y:=e▸h
theorem MQ {T:TypeId} (o:Tryz.prog.underlying T=some (.slice 9)) {g:Nat} {cs:List Value} {x:DataW H × List MemPlace} (h:ab enc Tryz.prog W 0 (λ _=>true) true g T cs=some x) :
  ∃ (A:Option Addr) (l:List ByteArray) (c:Nat),cs = [.slice A l.length c]/\qG W W.heap.size A c l/\l.length+1<=Rows.uptoBulk x.1:=by
 rcases open_strings o Tryz.underlying9 (by kernel_rfl) h with ⟨rfl,rfl⟩ | ⟨a,len,k,b,rfl,-,t,w,d,rfl,m,v⟩
 .exact⟨none,[],0,rfl,⟨⟨rfl,λ h=>absurd h (by simp)⟩,by simp,by simp,by simp⟩,by simp[Rows.uptoBulk]⟩
 .simp only[if_true] at d;have e:(b.take len).length=len:=by rw[List.length_take];omega
  refine⟨some a,b.take len,k,by rw[e],⟨⟨by rw[ND];omega,λ r=>?_⟩,by rw[e];exact t,by rw[e];omega,λ s i=>v s (List.mem_of_mem_take i)⟩,by
   show _<=Rows.uptoBulk (DataW.slice (strs (b.take len)) (strs (b.drop len)));rw[Rows.uptoBulk];have:=Au (H:=H) (strs (b.take len));rw[show (strs (H:=H) (b.take len)).length=(b.take len).length by simp[strs]] at this;omega⟩
  rw[e] at r;have q:=m 0 (by omega);refine⟨a,rfl,by have:=block_lt_of_cell q;rwa [iZ] at this,λ j u p=>?_⟩;obtain⟨n,rfl⟩:=Xn p;have f:j<b.length:=by rw[e] at n;omega
  rw[m j f,List.getD_eq_getElem?_getD,List.getElem?_eq_getElem f,List.getElem_take];rfl
theorem aaH {a:Nat} {cs:List Value} {x:DataW H × List MemPlace} (h:ab enc Tryz.prog W 0 (λ _=>true) true a 95 cs=some x) :
  ∃ e c d y3 n,a=n+1/\x.1 = .agg [e.1,c.1,d.1,y3.1]/\cs.length=4/\ab enc Tryz.prog W 0 (λ _=>true) true n 3 ((cs.drop 0).take 1)=some e/\ab enc Tryz.prog W 0 (λ _=>true) true n 53 ((cs.drop 1).take 1)=some c/\ab enc Tryz.prog W 0 (λ _=>true) true n 4 ((cs.drop 2).take 1)=some d/\ab enc Tryz.prog W 0 (λ _=>true) true n 4 ((cs.drop 3).take 1)=some y3:=by
 obtain⟨i,n,j,rfl,g,b,f⟩:=an Tryz.underlying95 h
 match i,b with
 | [e,c,d,y3],_=>exact⟨e,c,d,y3,n,j,rfl,g.trans (by kernel_rfl),yz (f 0 _ rfl) (by kernel_rfl),yz (f 1 _ rfl) (by kernel_rfl),yz (f 2 _ rfl) (by kernel_rfl),yz (f 3 _ rfl) (by kernel_rfl)⟩
theorem aaI {a:Nat} {cs:List Value} {x:DataW H × List MemPlace} (h:ab enc Tryz.prog W 0 (λ _=>true) true a 92 cs=some x) :
  ∃ c y1 n,a=n+1/\x.1 = .agg [c.1,y1.1]/\cs.length=2/\ab enc Tryz.prog W 0 (λ _=>true) true n 9 ((cs.drop 0).take 1)=some c/\ab enc Tryz.prog W 0 (λ _=>true) true n 90 ((cs.drop 1).take 1)=some y1:=by
 obtain⟨f,n,g,rfl,e,b,d⟩:=an Tryz.underlying92 h
 match f,b with
 | [c,y1],_=>exact⟨c,y1,n,g,rfl,e.trans (by kernel_rfl),yz (d 0 _ rfl) (by kernel_rfl),yz (d 1 _ rfl) (by kernel_rfl)⟩
theorem aaJ {a:Nat} {cs:List Value} {x:DataW H × List MemPlace} (h:ab enc Tryz.prog W 0 (λ _=>true) true a 144 cs=some x) :
  ∃ d c y2 n,a=n+1/\x.1 = .agg [d.1,c.1,y2.1]/\cs.length=10/\ab enc Tryz.prog W 0 (λ _=>true) true n 67 ((cs.drop 0).take 8)=some d/\ab enc Tryz.prog W 0 (λ _=>true) true n 4 ((cs.drop 8).take 1)=some c/\ab enc Tryz.prog W 0 (λ _=>true) true n 53 ((cs.drop 9).take 1)=some y2:=by
 obtain⟨g,n,i,rfl,f,b,e⟩:=an Tryz.underlying144 h
 match g,b with
 | [d,c,y2],_=>exact⟨d,c,y2,n,i,rfl,f.trans (by kernel_rfl),yz (e 0 _ rfl) (by kernel_rfl),yz (e 1 _ rfl) (by kernel_rfl),yz (e 2 _ rfl) (by kernel_rfl)⟩
theorem aaK {b:Nat} {cs:List Value} {x:DataW H × List MemPlace} (h:ab enc Tryz.prog W 0 (λ _=>true) true b 57 cs=some x) :
  ∃ l k g i m e f d j y9 n,b=n+1/\x.1 = .agg [l.1,k.1,g.1,i.1,m.1,e.1,f.1,d.1,j.1,y9.1]/\cs.length=10/\ab enc Tryz.prog W 0 (λ _=>true) true n 3 ((cs.drop 0).take 1)=some l/\ab enc Tryz.prog W 0 (λ _=>true) true n 3 ((cs.drop 1).take 1)=some k/\ab enc Tryz.prog W 0 (λ _=>true) true n 3 ((cs.drop 2).take 1)=some g/\ab enc Tryz.prog W 0 (λ _=>true) true n 3 ((cs.drop 3).take 1)=some i/\ab enc Tryz.prog W 0 (λ _=>true) true n 9 ((cs.drop 4).take 1)=some m/\ab enc Tryz.prog W 0 (λ _=>true) true n 52 ((cs.drop 5).take 1)=some e/\ab enc Tryz.prog W 0 (λ _=>true) true n 4 ((cs.drop 6).take 1)=some f/\ab enc Tryz.prog W 0 (λ _=>true) true n 54 ((cs.drop 7).take 1)=some d/\ab enc Tryz.prog W 0 (λ _=>true) true n 4 ((cs.drop 8).take 1)=some j/\ab enc Tryz.prog W 0 (λ _=>true) true n 55 ((cs.drop 9).take 1)=some y9:=by
 obtain⟨o,n,p,rfl,q,c,a⟩:=an Tryz.underlying57 h
 match o,c with
 | [l,k,g,i,m,e,f,d,j,y9],_=>exact⟨l,k,g,i,m,e,f,d,j,y9,n,p,rfl,q.trans (by kernel_rfl),yz (a 0 _ rfl) (by kernel_rfl),yz (a 1 _ rfl) (by kernel_rfl),yz (a 2 _ rfl) (by kernel_rfl),yz (a 3 _ rfl) (by kernel_rfl),yz (a 4 _ rfl) (by kernel_rfl),yz (a 5 _ rfl) (by kernel_rfl),yz (a 6 _ rfl) (by kernel_rfl),yz (a 7 _ rfl) (by kernel_rfl),yz (a 8 _ rfl) (by kernel_rfl),yz (a 9 _ rfl) (by kernel_rfl)⟩
theorem aaL {b:Nat} {cs:List Value} {x:DataW H × List MemPlace} (h:ab enc Tryz.prog W 0 (λ _=>true) true b 59 cs=some x) :
  ∃ l k g i m e f d j y9 n,b=n+1/\x.1 = .agg [l.1,k.1,g.1,i.1,m.1,e.1,f.1,d.1,j.1,y9.1]/\cs.length=19/\ab enc Tryz.prog W 0 (λ _=>true) true n 3 ((cs.drop 0).take 1)=some l/\ab enc Tryz.prog W 0 (λ _=>true) true n 9 ((cs.drop 1).take 1)=some k/\ab enc Tryz.prog W 0 (λ _=>true) true n 52 ((cs.drop 2).take 1)=some g/\ab enc Tryz.prog W 0 (λ _=>true) true n 53 ((cs.drop 3).take 1)=some i/\ab enc Tryz.prog W 0 (λ _=>true) true n 24 ((cs.drop 4).take 1)=some m/\ab enc Tryz.prog W 0 (λ _=>true) true n 4 ((cs.drop 5).take 1)=some e/\ab enc Tryz.prog W 0 (λ _=>true) true n 52 ((cs.drop 6).take 1)=some f/\ab enc Tryz.prog W 0 (λ _=>true) true n 9 ((cs.drop 7).take 1)=some d/\ab enc Tryz.prog W 0 (λ _=>true) true n 57 ((cs.drop 8).take 10)=some j/\ab enc Tryz.prog W 0 (λ _=>true) true n 52 ((cs.drop 18).take 1)=some y9:=by
 obtain⟨o,n,p,rfl,q,c,a⟩:=an Tryz.underlying59 h
 match o,c with
 | [l,k,g,i,m,e,f,d,j,y9],_=>exact⟨l,k,g,i,m,e,f,d,j,y9,n,p,rfl,q.trans (by kernel_rfl),yz (a 0 _ rfl) (by kernel_rfl),yz (a 1 _ rfl) (by kernel_rfl),yz (a 2 _ rfl) (by kernel_rfl),yz (a 3 _ rfl) (by kernel_rfl),yz (a 4 _ rfl) (by kernel_rfl),yz (a 5 _ rfl) (by kernel_rfl),yz (a 6 _ rfl) (by kernel_rfl),yz (a 7 _ rfl) (by kernel_rfl),yz (a 8 _ rfl) (by kernel_rfl),yz (a 9 _ rfl) (by kernel_rfl)⟩
theorem aaM {a:Nat} {cs:List Value} {x:DataW H × List MemPlace} (h:ab enc Tryz.prog W 0 (λ _=>true) true a 26 cs=some x) :
  ∃ f d e g y4 n,a=n+1/\x.1 = .agg [f.1,d.1,e.1,g.1,y4.1]/\cs.length=5/\ab enc Tryz.prog W 0 (λ _=>true) true n 9 ((cs.drop 0).take 1)=some f/\ab enc Tryz.prog W 0 (λ _=>true) true n 3 ((cs.drop 1).take 1)=some d/\ab enc Tryz.prog W 0 (λ _=>true) true n 22 ((cs.drop 2).take 1)=some e/\ab enc Tryz.prog W 0 (λ _=>true) true n 23 ((cs.drop 3).take 1)=some g/\ab enc Tryz.prog W 0 (λ _=>true) true n 24 ((cs.drop 4).take 1)=some y4:=by
 obtain⟨j,n,k,rfl,i,b,c⟩:=an Tryz.underlying26 h
 match j,b with
 | [f,d,e,g,y4],_=>exact⟨f,d,e,g,y4,n,k,rfl,i.trans (by kernel_rfl),yz (c 0 _ rfl) (by kernel_rfl),yz (c 1 _ rfl) (by kernel_rfl),yz (c 2 _ rfl) (by kernel_rfl),yz (c 3 _ rfl) (by kernel_rfl),yz (c 4 _ rfl) (by kernel_rfl)⟩
theorem ac6 {e:Nat} {cs:List Value} {x:DataW H × List MemPlace} (h:ab enc Tryz.prog W 0 (λ _=>true) true e 65 cs=some x) :
  ∃ (v:Val) (A:Option Addr) (c:Nat),cs = [.int .i64 v.k,.int .i64 v.n,.string v.s,.slice A v.l.length c]/\Reads W W.heap.size 1 A v.l.length (bI .i64 v.l)/\v.l.length<=maxLen/\v.s.size<=maxLen/\v.l.length+1<=Rows.uptoBulk x.1:=by
 obtain⟨E,D,z,C,n,-,w,u,t,r,j,q⟩:=abM h;obtain⟨a,b,c,d,rfl⟩:=list4 u;obtain⟨k,g⟩:=qw t;obtain⟨m,f⟩:=qw r;obtain⟨s,i,y⟩:=uw j;obtain⟨A,l,c',e3,p,-,o,B⟩:=N7 q;simp only[ad,ae,ak,al,ac,and_true] at g f i e3;subst g f i e3;refine⟨⟨k,m,s,l⟩,A,c',rfl,p,o,y,?_⟩;rw[w];simp only[Rows.uptoBulk,Rows.uptoBulkAll];show l.length+1<=_;omega
theorem xP:∀ (j:Nat) (cs:List Value) (x:DataW H × List MemPlace),ab enc Tryz.prog W 0 (λ _=>true) true j 67 cs=some x->∃ e:Ex,aZ W W.heap.size e cs/\e.bl<=Rows.uptoBulk x.1:=by
 intro j
 induction j using Nat.strongRecOn with
 | _ j ih =>
  intro cs x h;obtain⟨y0,y1,y2,y3,y4,n,R,T,S,P,O,J,M,N⟩:=abN h;obtain⟨a,b,c,d,e,f,g,i,rfl⟩:=ag2 S;obtain⟨k,E⟩:=qw P;obtain⟨G,C⟩:=qw O;obtain⟨s,F,U⟩:=uw J;obtain⟨v,X,Y,e3,r,q,t,Z⟩:=ac6 M;obtain⟨A',ar,c',I,K,hc,o,-⟩:=fQ (α:=Ex) (Pd:=λ w B e cs=>aZ w B e cs) (μ:=Ex.bl) Tryz.underlying52 (show Tryz.prog.cellsOf 67=8 by kernel_rfl) (by decide) (λ m l y D Q=>ih m (by omega) l y Q) N;simp only[ad,ae,ak,al,ac,and_true] at E C F e3 I;obtain⟨p,z,A,u⟩:=e3;subst E C F p z A u I;obtain⟨D,l,L,V⟩:=K;refine⟨.mk k G s v ar,aZ.mk (e:=.mk k G s v ar) U t q D r L V,?_⟩;rw[aat,T];simp only[Rows.uptoBulk,Rows.uptoBulkAll];show v.l.length+2+ER ar<=_;rw[Dy] at o;omega
theorem af5 {a:Nat} {cs:List Value} {x:DataW H × List MemPlace} (h:ab enc Tryz.prog W 0 (λ _=>true) true a 95 cs=some x):∃ d:xe,AQ W W.heap.size d cs/\0<=Rows.uptoBulk x.1:=by
 obtain⟨C,B,t,y,n,-,-,s,r,q,m,p⟩:=aaH h;obtain⟨z,u,w,v,rfl⟩:=list4 s;obtain⟨k,f⟩:=qw r;obtain⟨A,l,c,e,o,j⟩:=MQ Tryz.underlying53 q;obtain⟨b,g⟩:=xY m;obtain⟨i,e3⟩:=xY p;simp only[ad,ae,ak,al,ac,and_true] at f e g e3;subst f e g e3;exact⟨⟨k,l,b,i⟩,⟨A,c,rfl,o⟩,Nat.zero_le _⟩
theorem ac7 {a:Nat} {cs:List Value} {x:DataW H × List MemPlace} (h:ab enc Tryz.prog W 0 (λ _=>true) true a 92 cs=some x):∃ d:fD,lZ W W.heap.size d cs/\0<=Rows.uptoBulk x.1:=by
 obtain⟨t,r,n,-,-,m,i,g⟩:=aaI h;obtain⟨q,p,rfl⟩:=ag1 m;obtain⟨s,e,o⟩:=uw i;obtain⟨A,l,c,b,f,j,-,-⟩:=fQ (α:=xe) (Pd:=AQ) (μ:=λ _=>0) Tryz.underlying90 (show Tryz.prog.cellsOf 95=4 by kernel_rfl) (by decide) (λ _ _ _ _ k=>af5 k) g;simp only[ad,ae,ak,al,ac,and_true] at e b;subst e b;exact⟨⟨s,l⟩,⟨A,c,rfl,f,j,o⟩,Nat.zero_le _⟩
theorem ac8 {a:Nat} {cs:List Value} {x:DataW H × List MemPlace} (h:ab enc Tryz.prog W 0 (λ _=>true) true a 144 cs=some x):∃ d:vS,uG W W.heap.size d cs/\d.must.bl+d.ph.length+1<=Rows.uptoBulk x.1:=by
 obtain⟨I,F,y,n,-,r,q,p,o,k⟩:=aaJ h;obtain⟨E,B,D,C,s,z,u,w,t,G,rfl⟩:=adN q;obtain⟨e,g,v⟩:=xP _ _ _ p;obtain⟨b,f⟩:=xY o;obtain⟨A,l,c,i,m,j⟩:=MQ Tryz.underlying53 k;simp only[ad,ae,ak,al,ac,and_true] at f i g;subst f i;refine⟨⟨e,b,l⟩,⟨_,A,c,rfl,g,m⟩,?_⟩;rw[r];simp only[Rows.uptoBulk,Rows.uptoBulkAll];show e.bl+l.length+1<=_;omega
theorem af6 {c:Nat} {cs:List Value} {x:DataW H × List MemPlace} (h:ab enc Tryz.prog W 0 (λ _=>true) true c 57 cs=some x):∃ (a:rG) (C:Option Addr) (o:Nat) (z:Option Addr) (A:Nat) (g:Option Addr) (i:Nat),cs=X9 a C o z A g i/\sK W W.heap.size a C o z A g i/\a.cu<=Rows.uptoBulk x.1:=by
 obtain⟨y0,y1,y2,y3,y4,y5,y6,y7,y8,y9,n,-,hx,hl,I,h1,K,N,G,S,h6,E,X,D⟩:=aaK h;obtain⟨a0,a1,a2,a3,a4,a5,a6,a7,a8,a9,rfl⟩:=adN hl;obtain⟨k,p⟩:=qw I;obtain⟨V,f⟩:=qw h1;obtain⟨Z,q⟩:=qw K;obtain⟨Q,e3⟩:=qw N;obtain⟨s,t,J⟩:=uw G;obtain⟨A5,v,c5,u,L5,k5,P,-⟩:=fQ (α:=Ex) (Pd:=aZ) (μ:=Ex.bl) Tryz.underlying52 (show Tryz.prog.cellsOf 67=8 by kernel_rfl) (by decide) (λ m e y _ d=>xP m e y d) S;rw[Dy] at P;obtain⟨b,j⟩:=xY h6;obtain⟨A7,rs,c7,B,F,L,Y,b7⟩:=N7 E;obtain⟨T,e8⟩:=xY X;obtain⟨O,l,U,w,R,M,s9,-⟩:=fQ (α:=vS) (Pd:=uG) (μ:=λ r=>r.must.bl+r.ph.length+1) Tryz.underlying55 (show Tryz.prog.cellsOf 144=10 by kernel_rfl) (by decide) (λ _ _ _ _ d=>ac8 d) D;simp only[ad,ae,ak,al,ac,and_true] at p f q e3 t u j B e8 w;subst p f q e3 t u j B e8 w;refine⟨⟨k,V,Z,Q,s,v,b,rs,T,l⟩,A5,c5,A7,c7,O,U,rfl,⟨L5,F,R,k5,L,M,Y,J⟩,?_⟩;rw[hx];simp only[Rows.uptoBulk,Rows.uptoBulkAll];show ER v+rs.length+(l.map (λ r=>r.must.bl+r.ph.length+1)).sum<=_;omega
theorem ac9:∀ (c:Nat) (cs:List Value) (x:DataW H × List MemPlace),ab enc Tryz.prog W 0 (λ _=>true) true c 59 cs=some x->∃ d:ItemD,gY W W.heap.size d cs/\d.cu<=Rows.uptoBulk x.1:=by
 intro c
 induction c using Nat.strongRecOn with
 | _ c ih =>
 intro cs x h;obtain⟨y0,y1,y2,y3,y4,y5,y6,y7,y8,y9,n,I,hx,hl,G,h1,N,Q,F,Y,h6,D,h8,z⟩:=aaL h;obtain⟨a0,a1,a2,a3,a4,a5,a6,a7,a8,a9,R,C,B,WS,WU,WV,aa,U,WW,rfl⟩:=ai7 hl;obtain⟨k,o⟩:=qw G;obtain⟨nm,j,i⟩:=uw h1;obtain⟨A2,iff,c2,p,L2,O,X,-⟩:=fQ (α:=Ex) (Pd:=aZ) (μ:=Ex.bl) Tryz.underlying52 (show Tryz.prog.cellsOf 67=8 by kernel_rfl) (by decide) (λ m a y _ e=>xP m a y e) N;rw[Dy] at X;obtain⟨A3,ph,c3,e3,E,L⟩:=MQ Tryz.underlying53 Q;obtain⟨A4,f,c4,q,L4,K,s4,-⟩:=fQ (α:=ItemD) (Pd:=gY) (μ:=ItemD.cu) Tryz.underlying24 (show Tryz.prog.cellsOf 59=19 by kernel_rfl) (by decide) (λ m a y hm e=>ih m (by omega) a y e) F;rw[MP] at s4;obtain⟨b,r⟩:=xY Y;obtain⟨A6,cnt,c6,l,L6,k6,w,-⟩:=fQ (α:=Ex) (Pd:=aZ) (μ:=Ex.bl) Tryz.underlying52 (show Tryz.prog.cellsOf 67=8 by kernel_rfl) (by decide) (λ m a y _ e=>xP m a y e) h6;rw[Dy] at w;obtain⟨u,v,g⟩:=uw D;obtain⟨s,B1,b1,B2,b2,B3,b3,e8,hA,T⟩:=af6 h8;obtain⟨A9,cmp,c9,t,V,P,s9,-⟩:=fQ (α:=Ex) (Pd:=aZ) (μ:=Ex.bl) Tryz.underlying52 (show Tryz.prog.cellsOf 67=8 by kernel_rfl) (by decide) (λ m a y _ e=>xP m a y e) z;rw[Dy] at s9;simp only[ad,ae,ak,al,ac,and_true] at o j p e3 q r l v e8 t;unfold X9 at e8;simp only[ac,and_true] at e8;obtain⟨f0,f1,f2,f3,Z,A,f6,f7,f8,f9⟩:=e8;subst o j p e3 q r l v t f0 f1 f2 f3 Z A f6 f7 f8 f9;obtain⟨m4,J,S,M⟩:=L4;refine⟨.mk k nm iff ph f b cnt u s cmp,gY.mk (x:=.mk k nm iff ph f b cnt u s cmp) L2 E L6 V hA O K k6 P i g m4 S M,?_⟩;rw[hx];simp only[Rows.uptoBulk,Rows.uptoBulkAll];rw[ItemD.cu];omega
theorem abX {b:Nat} {cs:List Value} {x:DataW H × List MemPlace} (h:ab enc Tryz.prog W 0 (λ _=>true) true b 26 cs=some x) :
  ∃ (f:bC) (j i g:Option Addr) (d a e:Nat),cs = [.string f.nm,.int .i64 f.zW,.slice j f.bD.length d,.slice i f.lists.length a,.slice g f.items.length e]/\f.nm.size<=maxLen/\qG W W.heap.size j d f.bD/\aB lZ 2 W W.heap.size i f.lists/\f.lists.length<=a/\AU W W.heap.size g f.items/\f.items.length<=e/\QU f.items<=Rows.uptoBulk x.1:=by
 obtain⟨S,R,L,P,T,n,-,F,E,C,A,s,w,z⟩:=aaM h;obtain⟨Q,M,O,N,K,rfl⟩:=amG E;obtain⟨nm,p,k⟩:=uw C;obtain⟨v,o⟩:=qw A;obtain⟨j,B,d,q,t,-⟩:=MQ Tryz.underlying22 s;obtain⟨i,G,a,e3,u,I,-,-⟩:=fQ (α:=fD) (Pd:=lZ) (μ:=λ _=>0) Tryz.underlying23 (show Tryz.prog.cellsOf 92=2 by kernel_rfl) (by decide) (λ _ _ _ _ l=>ac7 l) w;obtain⟨g,c,e,r,D,J,s4,-⟩:=fQ (α:=ItemD) (Pd:=gY) (μ:=ItemD.cu) Tryz.underlying24 (show Tryz.prog.cellsOf 59=19 by kernel_rfl) (by decide) (λ m a y _ l=>ac9 m a y l) z;rw[MP] at s4;simp only[ad,ae,ak,al,ac,and_true] at p o q e3 r;subst p o q e3 r;refine⟨⟨nm,v,B,G,c⟩,j,i,g,d,a,e,rfl,k,t,u,I,D,J,?_⟩;rw[F];simp only[Rows.uptoBulk,Rows.uptoBulkAll];show QU c<=_;omega
end
end Go.Proofs.YtcnagconagpkcaaGreatDoor
namespace Go.Proofs.YtcnagconagpkcaaGreatDoor
open Go.ChangeShapes Go.WideShapes Go.ChangeAt Go.RowKit Go.Joins
theorem own:ownKnob Tryz.prog.godebug=none:=by kernel_rfl
theorem laidOut:laidOutB Tryz.prog=true:=by kernel_rfl
theorem yU {H:Type} {enc:TypeId × Value->H} {P:Program} {W g:World} (f:laidOutB P=true) (i:IY W g) :
  ∀ {c:List TypeId} {d:List Value} {ds:List (DataW H)} {ps:List MemPlace},(∀ t∈c,P.readableRec t=true/\t<P.types.size) ->
  av enc P W 0 (λ _=>true) true c d ds ps->(∀ x∈ps,x.block<W.heap.size)->av enc P g 0 (λ b=>decide (b<W.heap.size)) true c d ds ps
 | [],[],[],_,_,h,_=>h
 | _ :: _,_ :: _,_ :: _,_,hr,⟨p,q,h1,h2,e⟩,hs =>
  ⟨p,q,Below.trod f (hr _ (ao.2 (Or.inl rfl))).1 (hr _ (ao.2 (Or.inl rfl))).2 h1 i (λ x a=>hs x (by rw[e];exact aw _ a)),
   yU f i (λ t j=>hr t (ao.2 (Or.inr j))) h2 (λ x a=>hs x (by rw[e];exact List.mem_append_right _ a)),e⟩
 | [],[],_ :: _,_,_,h,_=>h.elim
 | [],_ :: _,_,_,_,h,_=>by cases h
 | _ :: _,[],_,_,_,h,_=>by cases h
 | _ :: _,_ :: _,[],_,_,h,_=>h.elim
theorem Yk {H:Type} {enc:TypeId × Value->H} {f:Func} {s:ChangeSpec} {W W':World} {args:Array Value} {ds b:List (DataW H)} {a:List MemPlace}
  (l:∀ t∈f.params.toList,Tryz.prog.readableRec t=true/\t<Tryz.prog.types.size) (c:f.resultTypes = #[4]) (k:s.vars = [])
  (o:(s.fn H (ds ++ b)).results = [.lit (.bool true)]) (j:(s.fn H (ds ++ b)).args=ds) (m:(s.fn H (ds ++ b)).vars = [])
  (g:DataW.Whole enc Tryz.prog f.params.toList s.vars false W args.toList ds b a) (i:IY W W'):s.post enc Tryz.prog f false true false false W args (.bool true) W':=by
 have e:=g.lt;have d:=g;obtain⟨p,q,n,u,rfl,_,_⟩:=g;refine⟨ds,b,p ++ q,[],p,[],d,?_,?_,?_,i.frame _,λ h=>by cases h⟩
 .rw[o,c];exact⟨[],[],shut_bool Tryz.underlying4 true,rfl,rfl⟩
 .rw[j];exact yU laidOut i l n (λ x r=>by simpa using e x (aw _ r))
 .rw[m,k];rfl
def Iq:List (String × DataW Unit):=[("math/bits.deBruijn32tab",Rows.laid_math_bits_deBruijn32tab),("math/bits.deBruijn64tab",Rows.laid_math_bits_deBruijn64tab),("internal/strconv.uint64pow10",Rows.laid_internal_strconv_uint64pow10),("unicode/utf8.acceptRanges",Rows.laid_unicode_utf8_acceptRanges),("unicode.White_Space",Rows.laid_unicode_White_Space),("strings.asciiSpace",Rows.laid_strings_asciiSpace),("unicode/utf8.first",Rows.laid_unicode_utf8_first)]
theorem Ko:(Iq.all λ x=>x.2.handleName?.isNone)=true:=by kernel_rfl
theorem aaN:Tryz.prog.globalNamed "internal/strconv.uint64pow10" = some 2:=by kernel_rfl
theorem WH:(Tryz.prog.globals[2]?).map (·.type)=some 292:=by kernel_rfl
theorem aaO:Tryz.prog.cellsOf 292=20:=by kernel_rfl
theorem aaP:Tryz.prog.cellsOf 249=1:=by kernel_rfl
theorem Qe:(Rows.laid_internal_strconv_uint64pow10:DataW Unit)=Lib.tabData .u64 Lib.pow10Tab:=by kernel_rfl
theorem aeO {W:World} (h:laidMetH Tryz.prog Iq W):Tab W:=by
 rw[MakeChecks.laidMetH_plain _ _ _ Ko] at h;have a:=(am (am h));unfold Tab;rw[Qe] at a;exact Lib.tabIs_of_head aaN WH Tryz.underlying292 Tryz.underlying249 aaP aaO a
theorem ada:Tryz.prog.globalNamed "strings.asciiSpace" = some 0:=by kernel_rfl
theorem aaQ:(Tryz.prog.globals[0]?).map (·.type)=some 277:=by kernel_rfl
theorem adb:Tryz.prog.cellsOf 277=256:=by kernel_rfl
theorem ade:Tryz.prog.cellsOf 5=1:=by kernel_rfl
theorem SG:(Rows.laid_strings_asciiSpace:DataW Unit)=Lib.tabData .u8 Lib.asciiSpaceTab:=by kernel_rfl
theorem ahB {W:World} (h:laidMetH Tryz.prog Iq W):Sp W:=by
 rw[MakeChecks.laidMetH_plain _ _ _ Ko] at h;have a:=(am (am (am (am (am h)))));unfold Sp;rw[SG] at a;exact Lib.tabIs_of_head ada aaQ Tryz.underlying277 Tryz.underlying5 ade adb a
theorem ahC {W:World} (h:W.ShapedOpen Tryz.prog):Mx W:=
 cell_of_shapedOpen_int (zero:=#[.int .i64 0]) (t:=3) h (by decide +kernel) (by kernel_rfl) rfl (by kernel_rfl) (by kernel_rfl) Tryz.underlying3
def aaR:DataW Unit->List Value
 | .lit (.int k n)=>[.int k n]
 | _=>[]
def ai8:DataW Unit->List Value
 | .agg l=>l.flatMap aaR
 | d=>aaR d
def flat3:DataW Unit->List Value
 | .agg l=>l.flatMap ai8
 | d=>aaR d
def tN (d:DataW Unit) (o:Obj):Obj:=match o with
 | .cells _ t frozen=>.cells (flat3 d).toArray t frozen
 | o=>o
def ai9 (g:Nat) (o:Obj):Obj:=match o with
 | .cells _ u frozen=>.cells #[.pointer (some ⟨g,0,none⟩)] u frozen
 | o=>o
noncomputable def Qg (os:Os):Nat:=(World.holding Tryz.prog os ⟨#[],#[],[]⟩).heap.size
noncomputable def laidWorld (os:Os):World:=
 { World.holding Tryz.prog os ⟨#[],#[],[]⟩ with heap:=((((((((((World.holding Tryz.prog os ⟨#[],#[],[]⟩).heap.modify 4 (tN Rows.laid_math_bits_deBruijn32tab)).modify 5 (tN Rows.laid_math_bits_deBruijn64tab)).modify 2 (tN Rows.laid_internal_strconv_uint64pow10)).modify 7 (tN Rows.laid_unicode_utf8_acceptRanges)).modify 0 (tN Rows.laid_strings_asciiSpace)).modify 6 (tN Rows.laid_unicode_utf8_first)).modify 3 (ai9 (Qg os+0))).push (.cells #[.slice (some ⟨Qg os+1,0,none⟩) 7 7,.slice none 0 0,.int .i64 2] 331 (0,0))).push (.cells #[.int .u16 9,.int .u16 13,.int .u16 1,.int .u16 32,.int .u16 133,.int .u16 101,.int .u16 160,.int .u16 5760,.int .u16 5600,.int .u16 8192,.int .u16 8202,.int .u16 1,.int .u16 8232,.int .u16 8233,.int .u16 1,.int .u16 8239,.int .u16 8287,.int .u16 48,.int .u16 12288,.int .u16 12288,.int .u16 1] 334 (0,0))) }
end Go.Proofs.YtcnagconagpkcaaGreatDoor
