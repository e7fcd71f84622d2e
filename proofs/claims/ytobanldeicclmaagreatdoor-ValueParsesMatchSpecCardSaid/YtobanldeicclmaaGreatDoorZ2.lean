/- Lemmas for the claim: walks and plain laws. -/
import Derived.Lib.Replace
import Derived.Lib.IndexMore
import Derived.Test.YtobanldeicclmaaGreatDoorZ1
import Derived.Lib.Split
import Derived.Lib.TrimByte
import Derived.Lib.Strings
import Derived.Lib.Join
import Derived.Lib.Small
import Derived.Lib.AtoiAll
import Derived.Lib.SlTrimSet
namespace Go.Proofs.YtobanldeicclmaaGreatDoor.Vtx
open Go.Lib
def subst1 (c : UInt8) (new : List UInt8) (s : List UInt8) : List UInt8 := s.flatMap fun b => if b = c then new else [b]
def OA : List UInt8 → List UInt8
 | a :: b :: r => if a = 39 ∧ b = 39 then 39 :: OA r else a :: OA (b :: r)
 | l => l
theorem DT (old new : List UInt8) (k : Nat) (s : List UInt8) (h : index s old = -1) : replaceK old new k s = s := by
 cases k with
 | zero => rfl
 | succ k => unfold replaceK; rw [if_pos (by simp [h])]
theorem rQ (b : UInt8) (l sub : List UInt8) : index (b :: l) sub = if sub.isPrefixOf (b :: l) then 0 else if index l sub = -1 then -1 else index l sub + 1 := by
 rw [index]
 simp
theorem count_le (s sub : List UInt8) (hs : sub ≠ []) : ∀ f, s.length < f → ∀ g, s.length < g → countFrom sub f s = countFrom sub g s := by
 intro f
 induction f generalizing s with
 | zero => intro h; omega
 | succ f ih =>
  intro h g hg
  cases g with
  | zero => omega
  | succ g =>
   unfold countFrom
   by_cases hi : index s sub = -1
   ·
    simp [hi]
   ·
    have hm : (index s sub == -1) = false := by simpa using hi
    have h0 := index_ge s sub
    have hr := index_room s sub (by omega)
    have hl : 0 < sub.length := List.length_pos_iff.2 hs
    simp only [hm, Bool.false_eq_true, if_false]
    congr 1
    exact ih _ (by simp; omega) g (by simp; omega)
theorem count_hit {s sub : List UInt8} {i : Nat} (hs : sub ≠ []) (h : index s sub = i) : count s sub = 1 + count (s.drop (i + sub.length)) sub := by
 have hr := index_room s sub (by omega)
 have hl : 0 < sub.length := List.length_pos_iff.2 hs
 rw [count, countFrom]
 have hm : (index s sub == -1) = false := by rw [h]; rw [beq_eq_false_iff_ne]; omega
 simp only [hm, Bool.false_eq_true, if_false]
 rw [h, Int.toNat_natCast]
 congr 1
 unfold count
 exact count_le _ _ hs _ (by simp; omega) _ (by omega)
def yl (old new : List UInt8) : List UInt8 → List UInt8 := fun s => replaceK old new (count s old) s
theorem yt {s old new : List UInt8} (h : index s old = -1) : yl old new s = s := DT _ _ _ _ h
theorem Af {s old new : List UInt8} {i : Nat} (hs : old ≠ []) (h : index s old = i) : yl old new s = s.take i ++ new ++ yl old new (s.drop (i + old.length)) := by
 unfold yl
 rw [count_hit hs h, Nat.add_comm, replaceK_hit _ _ _ _ _ h]
theorem jK {s old new : List UInt8} (h : old ≠ new) : replaceAll s old new = yl old new s := by
 unfold replaceAll replace replaceNum yl
 rw [if_neg (by simpa using h), if_pos (by simp)]
theorem Ag {old new : List UInt8} (hs : old ≠ []) : yl old new [] = [] := yt (by cases old; exact absurd rfl hs; rfl)
theorem EJ {old new r : List UInt8} (hs : old ≠ []) : yl old new (old ++ r) = new ++ yl old new r := by
 have h : index (old ++ r) old = (0 : Nat) := by
  refine index_first (Nat.zero_le _) ?_ (fun j hj => absurd hj (by omega))
  simp [occAt]
 rw [Af hs h]
 simp
theorem yu {old new r : List UInt8} {b : UInt8} (hs : old ≠ []) (h : old.isPrefixOf (b :: r) = false) : yl old new (b :: r) = b :: yl old new r := by
 have hi := rQ b r old
 rw [h] at hi
 simp only [Bool.false_eq_true, if_false] at hi
 by_cases hr : index r old = -1
 ·
  rw [if_pos hr] at hi
  rw [yt hi, yt hr]
 ·
  rw [if_neg hr] at hi
  obtain ⟨i, hix⟩ : ∃ i : Nat, index r old = i := ⟨(index r old).toNat, by have := index_ge r old; omega⟩
  rw [Af hs (i := i + 1) (by rw [hi, hix]; rfl), Af hs hix]
  simp [Nat.add_right_comm]
theorem uz (c : UInt8) (new s : List UInt8) : yl [c] new s = subst1 c new s := by
 induction s with
 | nil => exact Ag (by simp)
 | cons b r ih =>
  by_cases h : b = c
  ·
   subst h
   have := EJ (new := new) (r := r) (old := [b]) (by simp)
   simp only [List.singleton_append] at this
   rw [this, ih]; simp [subst1]
  ·
   rw [yu (by simp) (by simp [List.isPrefixOf]; exact fun e => h e.symm), ih]; simp [subst1, h]
theorem IA (s : List UInt8) : yl [39, 39] [39] s = OA s := by
 induction s using OA.induct with
 | case1 a b r h ih =>
  obtain ⟨rfl, rfl⟩ := h
  have := EJ (new := [39]) (r := r) (old := [39, 39]) (by simp)
  simp only [List.cons_append, List.nil_append] at this
  rw [this, ih, OA, if_pos ⟨rfl, rfl⟩]
 | case2 a b r h ih =>
  rw [yu (by simp), ih, OA, if_neg h]
  simp only [List.isPrefixOf, Bool.and_true]
  rw [Bool.eq_false_iff]
  intro e
  simp at e
  exact h ⟨e.1.symm, e.2.symm⟩
 | case3 l h =>
  rcases l with _ | ⟨a, _ | ⟨b, r⟩⟩
  ·
   rw [Ag (by simp)]; rfl
  ·
   rw [yu (by simp) (by simp [List.isPrefixOf]), Ag (by simp)]; rfl
  ·
   exact absurd rfl (h a b r)
theorem OB (s : List UInt8) : OA (subst1 39 [39, 39] s) = s := by
 induction s with
 | nil => rfl
 | cons b r ih =>
  by_cases h : b = 39
  ·
   subst h
   have e : subst1 39 [39, 39] (39 :: r) = 39 :: 39 :: subst1 39 [39, 39] r := by simp [subst1]
   rw [e, OA, if_pos ⟨rfl, rfl⟩, ih]
  ·
   have e : subst1 39 [39, 39] (b :: r) = b :: subst1 39 [39, 39] r := by simp [subst1, h]
   rw [e]
   cases hr : subst1 39 [39, 39] r with
   | nil => rw [hr] at ih; rw [← ih]; simp [OA]
   | cons d t => rw [OA, if_neg (by simp [h]), ← hr, ih]
theorem back (s : List UInt8) : replaceAll (replaceAll s [39] [39, 39]) [39, 39] [39] = s := by
 rw [jK (by simp), jK (by simp), uz, IA, OB]
end Go.Proofs.YtobanldeicclmaaGreatDoor.Vtx
namespace Go.Proofs.YtobanldeicclmaaGreatDoor.Vtx
open Go.Lib Dig
def iO (w : Nat) (n : Int) : List UInt8 := zeros (w - (itoa n).length) ++ itoa n
def fG (m : Int) : List UInt8 := trimRightB (iO 4 m) 48
def mZ (n : Int) : Int := if n < 0 then -n else n
def mJ (n : Int) : List UInt8 := (if n < 0 then [45] else []) ++ itoa (mZ n / 10000) ++ (if fG (mZ n % 10000) = [] then [] else 46 :: fG (mZ n % 10000))
def dh (c : Int) : List UInt8 := 35 :: itoa c
def kW (l : List Int) : List UInt8 := 123 :: join (l.map dh) [44] ++ [125]
noncomputable def jB (n : Int) : List UInt8 := 64 :: iO 4 (Cal.cy n) ++ [45] ++ iO 2 (Cal.cm n) ++ [45] ++ iO 2 (Cal.cd n)
def OC : List UInt8 := [100, 111, 110, 116, 107, 110, 111, 119]
def OD : List UInt8 := [114, 101, 102, 117, 115, 101, 100]
def OE : List UInt8 := [110, 111, 97, 110, 115, 119, 101, 114]
def iP : List UInt8 := [116, 114, 117, 101]
def dV : List UInt8 := [102, 97, 108, 115, 101]
def qm (n : Int) : List UInt8 := if n = 1 then OC else if n = 2 then OD else OE
def vZ (s : List UInt8) : List UInt8 := 39 :: replaceAll s [39] [39, 39] ++ [39]
noncomputable def showT (k n : Int) (s : List UInt8) (l : List Int) : List UInt8 :=
 if k = 1 then qm n else if k = 2 then mJ n else if k = 3 then vZ s else if k = 4 then dh n else if k = 5 then kW l else if k = 6 then jB n else
 if k = 7 then (if n = 1 then iP else dV) else [45]
def bI (b : UInt8) : Bool := decide (48 ≤ b.toNat) && decide (b.toNat ≤ 57)
def dN (l : List UInt8) : Nat × Bool := if l = [] ∨ 15 < l.length then (0, false) else if l.all bI then (dC l, true) else (0, false)
def OG (l : List UInt8) (k : Nat) : List UInt8 := l ++ zeros (k - l.length)
def jL (s : List UInt8) : Option Int :=
 let d := trimPrefix s [45]
 let part := OG (cut d [46]).2.1 4
 let a := dN (cut d [46]).1
 let b := dN part
 if a.2 = true ∧ b.2 = true ∧ part.length ≤ 4 ∧ a.1 ≤ 99999999999 then
  some (if d.length < s.length then -((a.1 * 10000 + b.1 : Nat) : Int) else ((a.1 * 10000 + b.1 : Nat) : Int)) else none
def nG : List (List UInt8) → Option (List Int)
 | [] => some []
 | p :: r => if (dN (trimPrefix p [35])).2 then (nG r).map (((dN (trimPrefix p [35])).1 : Int) :: ·) else none
def nH (s : List UInt8) : List UInt8 := trimSuffix (trimPrefix s [123]) [125]
def jM (s : List UInt8) : Option (List Int) := if nH s = [] then some [] else nG (split (nH s) [44])
def Nw (y m d : Int) : Int := if Cal.jq y m d = true then 6 else 0
def Ny (y m d : Int) : Int := if Cal.jq y m d = true then Cal.num y m d else 0
def jr (r : List UInt8) : Option Int :=
 match split r [45] with
 | [a, b, c] => if (dN a).2 && (dN b).2 && (dN c).2 && Cal.jq (dN a).1 (dN b).1 (dN c).1 then some (Cal.num (dN a).1 (dN b).1 (dN c).1) else none
 | _ => none
structure Q where
 k : Int
 n : Int
 s : List UInt8
 l : List Int
deriving DecidableEq
def dA (s : List UInt8) : Option Q :=
 if s = [] then none else if s = [45] then some ⟨0, 0, [], []⟩ else if s = iP then some ⟨7, 1, [], []⟩ else if s = dV then some ⟨7, 0, [], []⟩ else
 if s.head? = some 39 then some ⟨3, 0, replaceAll (trimSuffix s.tail [39]) [39, 39] [39], []⟩ else
 if s.head? = some 35 then (if (dN s.tail).2 then some ⟨4, (dN s.tail).1, [], []⟩ else none) else
 if s.head? = some 123 then (jM s).map (⟨5, 0, [], ·⟩) else
 if s.head? = some 64 then (jr s.tail).map (⟨6, ·, [], []⟩) else
 if s = OC then some ⟨1, 1, [], []⟩ else if s = OD then some ⟨1, 2, [], []⟩ else if s = OE then some ⟨1, 3, [], []⟩ else
 (jL s).map (⟨2, ·, [], []⟩)
def bM (l : List UInt8) : Int := match atoiAll l with
 | .ok v => v
 | .range => atoiSat l
 | _ => 0
def jc (s : List UInt8) : Int :=
 let c := cut (trimPrefix s [45]) [46]
 if 4 < c.2.1.length ∨ 12 < c.1.length then 0 else
  if hasPrefix s [45] then -(bM c.1 * 10000 + bM (c.2.1 ++ zeros (4 - c.2.1.length))) else bM c.1 * 10000 + bM (c.2.1 ++ zeros (4 - c.2.1.length))
def lH (l : List (List UInt8)) : List Int := (l.filter (· ≠ [])).map fun p => bM (trimPrefix p [35])
def gZ (s : List UInt8) : Q :=
 if s = OC then ⟨1, 1, [], []⟩ else if s = OD then ⟨1, 2, [], []⟩ else if s = OE then ⟨1, 3, [], []⟩ else
 if s = [45] then ⟨0, 0, [], []⟩ else if s = iP then ⟨7, 1, [], []⟩ else if s = dV then ⟨7, 0, [], []⟩ else
 if 1 < s.length ∧ s.head? = some 39 then ⟨3, 0, replaceAll ((s.take (s.length - 1)).drop 1) [39, 39] [39], []⟩ else
 if s.head? = some 35 then ⟨4, bM s.tail, [], []⟩ else
 if s.head? = some 123 then ⟨5, 0, [], lH (split (trimS s [123, 125]) [44])⟩ else
 if s.length = 11 ∧ s.head? = some 64 then
  ⟨Nw (bM ((s.take 5).drop 1)) (bM ((s.take 8).drop 6)) (bM (s.drop 9)), Ny (bM ((s.take 5).drop 1)) (bM ((s.take 8).drop 6)) (bM (s.drop 9)), [], []⟩ else
 ⟨2, jc s, [], []⟩
inductive KL : Int → Int → List UInt8 → List Int → Prop
 | none_ : KL 0 0 [] []
 | word {n : Int} (h1 : 1 ≤ n) (h2 : n ≤ 3) : KL 1 n [] []
 | num {n : Int} (h1 : -999999999999999 ≤ n) (h2 : n ≤ 999999999999999) : KL 2 n [] []
 | text (s : List UInt8) : KL 3 0 s []
 | code {n : Int} (h1 : 1 ≤ n) (h2 : n ≤ 999) : KL 4 n [] []
 | set {l : List Int} (h : ∀ c ∈ l, 1 ≤ c ∧ c ≤ 999) : KL 5 0 [] l
 | day {n : Int} (h1 : -25567 ≤ n) (h2 : n ≤ 84005) : KL 6 n [] []
 | bool {n : Int} (h1 : 0 ≤ n) (h2 : n ≤ 1) : KL 7 n [] []
theorem jd (n : Nat) : itoa (n : Int) = decDigits n := by unfold itoa; rw [if_neg (by omega)]; simp
theorem VB {l : List UInt8} (h : ∀ b ∈ l, cu b) : l.all bI = true := by
 rw [List.all_eq_true]
 intro b hb
 have := h b hb
 unfold cu at this
 simp [bI, this.1, this.2]
theorem EK {l : List UInt8} (h : ∀ b ∈ l, cu b) (h0 : l ≠ []) (hl : l.length ≤ 15) : dN l = (dC l, true) := by
 unfold dN
 rw [if_neg (by simp [h0]; omega), if_pos (VB h)]
theorem Ah (n : Nat) : decDigits n ≠ [] := fun h => by have := Vz n; rw [h] at this; simp at this
theorem yw {n : Nat} (h : (decDigits n).length ≤ 15) : dN (decDigits n) = (n, true) := by rw [EK (nR n) (Ah n) h, wO]
theorem oK (w n : Nat) : ∀ b ∈ iO w n, cu b := by
 intro b hb
 unfold iO at hb
 rw [jd] at hb
 rcases List.mem_append.1 hb with h | h
 ·
  exact Oy _ b h
 ·
  exact nR n b h
theorem Rx (w n : Nat) : iO w n ≠ [] := by unfold iO; rw [jd]; simp [Ah]
theorem F7 (w n : Nat) : dC (iO w n) = n := by unfold iO; rw [jd, F5, wO]
theorem jG {w n : Nat} (h : (decDigits n).length ≤ w) : (iO w n).length = w := by unfold iO; rw [jd]; simp [zeros]; omega
theorem vw {w n : Nat} (h : (decDigits n).length ≤ w) (hw : w ≤ 15) : dN (iO w n) = (n, true) := by
 rw [EK (oK w n) (Rx w n) (by rw [jG h]; exact hw), F7]
theorem F8 {l : List UInt8} (h : ∀ b ∈ l, cu b) {c : UInt8} (hc : ¬ cu c) : c ∉ l := fun hm => hc (h c hm)
theorem Ry : ¬ cu 45 := by unfold cu; decide
theorem ack : ¬ cu 46 := by unfold cu; decide
theorem acm : ¬ cu 44 := by unfold cu; decide
theorem oD {c : UInt8} : ∀ {l : List UInt8}, c ∉ l → index l [c] = -1
 | [], _ => rfl
 | b :: r, h => by
  rw [rQ, oD (fun hm => h (List.mem_cons_of_mem _ hm)), if_neg]
  ·
   rfl
  ·
   simp [List.isPrefixOf]
   exact fun e => h (by rw [e]; exact List.mem_cons_self ..)
theorem qE {c : UInt8} : ∀ {a : List UInt8} (b : List UInt8), c ∉ a → index (a ++ c :: b) [c] = a.length
 | [], b, _ => by rw [List.nil_append, rQ, if_pos (by simp [List.isPrefixOf])]; rfl
 | x :: r, b, h => by
  rw [List.cons_append, rQ, qE b (fun hm => h (List.mem_cons_of_mem _ hm)), if_neg, if_neg (by omega)]
  ·
   simp
  ·
   simp [List.isPrefixOf]
   exact fun e => h (by rw [e]; exact List.mem_cons_self ..)
theorem Rz {c : UInt8} {l : List UInt8} (h : c ∉ l) : cut l [c] = (l, [], false) := by unfold cut; rw [oD h, if_neg (by decide)]
theorem X9 {c : UInt8} {a : List UInt8} (b : List UInt8) (h : c ∉ a) : cut (a ++ c :: b) [c] = (a, b, true) := by
 unfold cut
 rw [qE b h, if_pos (by omega)]
 simp [List.drop_append]
theorem IB (sep : List UInt8) (save k : Nat) (s : List UInt8) (h : index s sep = -1) : splitK sep save k s = [s] := by
 cases k with
 | zero => rfl
 | succ k => unfold splitK; simp [h]
theorem EL {c : UInt8} {l : List UInt8} (h : c ∉ l) : split l [c] = [l] := IB _ _ _ _ (oD h)
theorem Ai {c : UInt8} {a : List UInt8} (b : List UInt8) (h : c ∉ a) : split (a ++ c :: b) [c] = a :: split b [c] := by
 have hi := qE b h
 have hm : (index (a ++ c :: b) [c] == -1) = false := by rw [hi, beq_eq_false_iff_ne]; omega
 unfold split
 rw [count_hit (by simp) hi, Nat.add_comm, splitK]
 simp only [hm, Bool.false_eq_true, if_false]
 rw [hi]
 simp [List.drop_append, List.drop_eq_nil_of_le]
theorem lI {c : UInt8} : ∀ {ps : List (List UInt8)}, ps ≠ [] → (∀ p ∈ ps, c ∉ p) → split (join ps [c]) [c] = ps
 | [], h, _ => absurd rfl h
 | [p], _, h => by rw [join_one]; exact EL (h p (List.mem_cons_self ..))
 | p :: q :: r, _, h => by
  have e : join (p :: q :: r) [c] = p ++ c :: join (q :: r) [c] := by
   rw [join_cons, join_cons]; simp [joinTail]
  rw [e, Ai _ (h p (List.mem_cons_self ..)), lI (by simp) (fun x hx => h x (List.mem_cons_of_mem _ hx))]
end Go.Proofs.YtobanldeicclmaaGreatDoor.Vtx
namespace Go.Proofs.YtobanldeicclmaaGreatDoor
open Vtx
def acn (e : Ex) : Int :=
 if e.k = 1 ∧ e.v.k = 2 ∧ e.v.n < 0 then 7 else if e.k ≠ 4 then 8 else if e.op = 3 then 1 else if e.op = 2 then 2 else if e.op = 1 then 3 else
 if 4 ≤ e.op ∧ e.op ≤ 11 then 4 else if e.op = 15 ∨ e.op = 16 then 5 else if e.op = 17 ∨ e.op = 18 ∨ e.op = 19 then 6 else if e.op = 20 then 7 else 8
def iQ (op : Int) : List UInt8 :=
 if op = 4 then [61] else if op = 5 then [60, 62] else if op = 6 then [60] else if op = 7 then [60, 61] else if op = 8 then [62] else if op = 9 then [62, 61] else
 if op = 10 then [105, 110] else if op = 11 then [104, 97, 115] else if op = 15 then [43] else if op = 16 then [45] else if op = 17 then [42] else if op = 18 then [47] else
 if op = 19 then [109, 111, 100] else []
def uA : List (Int × List UInt8) := [(12, [97, 110, 115, 119, 101, 114, 101, 100]), (13, [97, 115, 107, 101, 100]), (14, [114, 101, 97, 115, 111, 110]), (21, [97, 98, 115]), (22, [102, 108, 111, 111, 114]),
 (23, [114, 111, 117, 110, 100]), (24, [109, 105, 110]), (25, [109, 97, 120]), (26, [105, 102]), (27, [101, 108, 115, 101]), (28, [115, 105, 122, 101]),
 (29, [99, 111, 100, 101]), (30, [108, 111, 119, 101, 114]), (31, [106, 111, 105, 110]), (32, [98, 101, 103, 105, 110, 115]), (33, [104, 111, 108, 100, 115]),
 (34, [121, 101, 97, 114]), (35, [109, 111, 110, 116, 104]), (36, [100, 97, 121]), (37, [100, 97, 121, 115]), (38, [97, 103, 101]), (39, [108, 97, 116, 101, 114])]
def ZU (op : Int) : List UInt8 := match uA.find? (fun p => decide (p.1 = op)) with
 | some p => p.2
 | none => []
def RD : List (List UInt8) := [[], [115, 117, 109], [99, 111, 117, 110, 116], [97, 110, 121], [97, 108, 108], [108, 101, 97, 115, 116], [109, 111, 115, 116]]
def pF (op : Int) : List UInt8 := RD.getD op.toNat []
def VC (l : List Ex) : Bool := match l with
 | a :: _ => decide (a.k = 1) && (decide (a.v.k = 2) && decide (0 ≤ a.v.n))
 | [] => false
def aco (b : Bool) (t : List UInt8) : List UInt8 := if b then 40 :: (t ++ [41]) else t
mutual
noncomputable def Ex.text : Ex → List UInt8
 | .mk k op nm v ar =>
  if k = 1 then showT v.k v.n v.s.data.toList v.l else if k = 2 then nm.data.toList else if k = 3 then [114, 111, 119, 40] ++ nm.data.toList ++ [41] else
  if k = 5 then pF op ++ [40] ++ nm.data.toList ++ [58, 32] ++ (insL 0 ar).getD 0 [] ++ [41] else
  if op = 3 then Lib.join (insL 2 ar) [32, 111, 114, 32] else if op = 2 then Lib.join (insL 3 ar) [32, 97, 110, 100, 32] else
  if op = 1 then [110, 111, 116, 32] ++ (insL 3 ar).getD 0 [] else
  if 4 ≤ op ∧ op ≤ 11 then (insL 5 ar).getD 0 [] ++ [32] ++ iQ op ++ [32] ++ (insL 5 ar).getD 1 [] else
  if op = 15 ∨ op = 16 then (insL 5 ar).getD 0 [] ++ [32] ++ iQ op ++ [32] ++ (insL 6 ar).getD 1 [] else
  if op = 17 ∨ op = 18 ∨ op = 19 then (insL 6 ar).getD 0 [] ++ [32] ++ iQ op ++ [32] ++ (insL 7 ar).getD 1 [] else
  if op = 20 then (if VC ar = true then [45, 40] ++ (insL 0 ar).getD 0 [] ++ [41] else [45] ++ (insL 7 ar).getD 0 []) else
  ZU op ++ [40] ++ Lib.join (insL 1 ar) [44, 32] ++ [41]
noncomputable def insL (least : Int) : List Ex → List (List UInt8)
 | [] => []
 | a :: r => aco (decide (acn a < least)) a.text :: insL least r
end
structure Tok where
 at_ : Nat
 tx : List UInt8
 touch : Bool
def aK (p : UInt8 → Bool) : List UInt8 → Nat
 | [] => 0
 | c :: r => if p c then aK p r + 1 else 0
def bU : List UInt8 → Nat
 | [] => 0
 | [_] => 1
 | c :: d :: r => if c ≠ 39 then bU (d :: r) + 1 else if d = 39 then bU r + 2 else 1
def fZ : List UInt8 → Nat
 | [] => 0
 | c :: r => if c = 125 then 1 else fZ r + 1
def iH (c : UInt8) : Bool := bI c || decide (c = 46)
def jY (c : UInt8) : Bool := bI c || decide (c = 45)
def aA (c : UInt8) : Bool := decide (c = 32)
def F9 (c d : UInt8) : Bool := decide (c = 60 ∧ (d = 62 ∨ d = 61)) || decide (c = 62 ∧ d = 61)
def qo (c : UInt8) (r : List UInt8) : Nat := match r with
 | d :: _ => if F9 c d then 2 else 1
 | [] => 1
def aJ : List UInt8 → Nat
 | [] => 0
 | c :: r =>
  if dE c then aK bK r + 1 else if bI c then aK iH r + 1 else if c = 64 then aK jY r + 1 else if c = 35 then aK bI r + 1 else
  if c = 39 then bU r + 1 else if c = 123 then fZ r + 1 else qo c r
def bV (s : List UInt8) (i : Nat) : Option Tok :=
 if i + aK aA (s.drop i) < s.length then
  some ⟨i + aK aA (s.drop i), (s.drop (i + aK aA (s.drop i))).take (aJ (s.drop (i + aK aA (s.drop i)))),
   decide (aK aA (s.drop i) = 0) && decide (0 < i) && bK (s.getD (i - 1) 0) && bK (s.getD i 0)⟩
 else none
def toks (s : List UInt8) : Nat → Nat → List Tok
 | 0, _ => []
 | f + 1, i => match bV s i with
  | none => []
  | some t => t :: toks s f (t.at_ + t.tx.length)
def wordsOf (s : List UInt8) (i : Nat) : List Tok := toks s (s.length + 1) i
theorem qp (p : UInt8 → Bool) : ∀ l, aK p l ≤ l.length
 | [] => Nat.le_refl _
 | c :: r => by
  rw [aK, List.length_cons]
  have := qp p r
  split <;> omega
theorem yx : ∀ l, bU l ≤ l.length
 | [] => Nat.le_refl _
 | [_] => Nat.le_refl _
 | c :: d :: r => by
  rw [bU]
  have h1 := yx (d :: r)
  have h2 := yx r
  simp only [List.length_cons] at *
  split
  ·
   omega
  ·
   split <;> omega
theorem uB : ∀ l, fZ l ≤ l.length
 | [] => Nat.le_refl _
 | c :: r => by
  rw [fZ, List.length_cons]
  have := uB r
  split <;> omega
theorem KN (c : UInt8) (r : List UInt8) : 1 ≤ qo c r ∧ qo c r ≤ r.length + 1 := by
 cases r with
 | nil => exact ⟨Nat.le_refl _, Nat.le_refl _⟩
 | cons d r =>
  unfold qo
  simp only [List.length_cons]
  split <;> omega
theorem Aj (c : UInt8) (r : List UInt8) : 1 ≤ aJ (c :: r) ∧ aJ (c :: r) ≤ r.length + 1 := by
 rw [aJ]
 have h1 := qp bK r
 have h2 := qp iH r
 have h3 := qp jY r
 have h4 := qp bI r
 have h5 := yx r
 have h6 := uB r
 have h7 := KN c r
 repeat' split
 all_goals omega
theorem wR (l : List UInt8) : aJ l ≤ l.length := by
 cases l with
 | nil => exact Nat.le_refl _
 | cons c r => exact (Aj c r).2
theorem uC (c : UInt8) (r : List UInt8) : 0 < aJ (c :: r) := (Aj c r).1
theorem dW {s : List UInt8} {i : Nat} {t : Tok} (h : bV s i = some t) : i ≤ t.at_ ∧ t.at_ < s.length ∧ 0 < t.tx.length ∧ t.at_ + t.tx.length ≤ s.length ∧ t.at_ = i + aK aA (s.drop i) ∧ t.tx = (s.drop t.at_).take (aJ (s.drop t.at_)) ∧ t.tx.length = aJ (s.drop t.at_) := by
 unfold bV at h
 split at h
 ·
  rename_i hlt
  injection h with h
  subst h
  generalize hj : i + aK aA (s.drop i) = j at hlt ⊢
  have hd : ∃ c r, s.drop j = c :: r := by
   cases e : s.drop j with
   | nil => have := congrArg List.length e; simp at this; omega
   | cons c r => exact ⟨c, r, rfl⟩
  obtain ⟨c, r, e⟩ := hd
  have h1 := wR (s.drop j)
  have h2 : 0 < aJ (s.drop j) := by rw [e]; exact uC c r
  have h3 : (s.drop j).length = s.length - j := List.length_drop
  have h4 : ((s.drop j).take (aJ (s.drop j))).length = aJ (s.drop j) := by rw [List.length_take]; omega
  dsimp only
  exact ⟨by omega, hlt, by omega, by omega, rfl, rfl, h4⟩
 ·
  cases h
theorem EM (s : List UInt8) : ∀ (f f' i : Nat), s.length < f + i → s.length < f' + i → toks s f i = toks s f' i
 | 0, 0, _, _, _ => rfl
 | 0, f' + 1, i, h, _ => by
  rw [toks, toks]
  split
  ·
   rfl
  ·
   rename_i t ht
   have := dW ht
   omega
 | f + 1, 0, i, _, h => by
  rw [toks, toks]
  split
  ·
   rfl
  ·
   rename_i t ht
   have := dW ht
   omega
 | f + 1, f' + 1, i, h, h' => by
  rw [toks, toks]
  split
  ·
   rfl
  ·
   rename_i t ht
   have := dW ht
   rw [EM s f f' _ (by omega) (by omega)]
theorem eQ (s : List UInt8) (i : Nat) : wordsOf s i = match bV s i with
  | none => []
  | some t => t :: wordsOf s (t.at_ + t.tx.length) := by
 unfold wordsOf
 rw [toks]
 split
 ·
  rfl
 ·
  rename_i t ht
  have := dW ht
  rw [EM s s.length (s.length + 1) _ (by omega) (by omega)]
theorem qU (s : List UInt8) : ∀ (f i : Nat), (toks s f i).length ≤ s.length - i
 | 0, _ => by simp [toks]
 | f + 1, i => by
  rw [toks]
  split
  ·
   simp
  ·
   rename_i t ht
   have h1 := dW ht
   have h2 := qU s f (t.at_ + t.tx.length)
   rw [List.length_cons]
   omega
open Classical in
noncomputable def fQ (s : List UInt8) : Option Val := if h : ∃ v : Val, aV v = 0 ∧ showT v.k v.n v.s.data.toList v.l = s then some h.choose else none
def Nz (out l : List UInt8) : Bool := match out.getLast?, l with
 | some a, d :: _ => (bI a || decide (a = 35)) && bI d
 | _, _ => false
def qF : Nat → List UInt8 → List UInt8 → List UInt8
 | 0, out, _ => out
 | _ + 1, out, [] => out
 | f + 1, out, c :: r => if c ≠ 32 then qF f (out ++ [c]) r else qF f (if Nz out (r.dropWhile aA) then out ++ [32] else out) (r.dropWhile aA)
def iE (s : List UInt8) : List UInt8 := qF (s.length + 1) [] s
inductive NT | or | Ia | and | tZ | not | sum | uf | product | fH | minus | az | args (o : Int) | lS (o : Int)
inductive jO | ok (es : List Ex) (l : List Tok) | err (k : Nat)
def kU (l : List Tok) (w : List UInt8) : Bool := match l with
 | t :: _ => !t.touch && decide (t.tx = w)
 | [] => false
def dO (n : Nat) (l : List Tok) : Nat := match l with
 | t :: _ => t.at_
 | [] => n
def je : Val := ⟨0, 0, ⟨#[]⟩, []⟩
def bQ (o : Int) (l : List Ex) : Ex := .mk 4 o ⟨#[]⟩ je l
def dX (v : Val) : Ex := .mk 1 0 ⟨#[]⟩ v []
def bP (k o : Int) (nm : List UInt8) (l : List Ex) : Ex := .mk k o ⟨nm.toArray⟩ je l
def pG (o : Int) (l : List Ex) : List Ex := match l with
 | [e] => [e]
 | l => [bQ o l]
def bJ (a b : Int) (l : List Tok) : Int :=
 if kU l [] then 0 else match ([4, 5, 6, 7, 8, 9, 10, 11, 15, 16, 17, 18, 19] : List Int).find? (fun o => decide (a ≤ o) && decide (o ≤ b) && decide (iQ o ≠ []) && kU l (iQ o)) with
 | some o => o
 | none => 0
def QU : List UInt8 := [111, 114]
def zL : List UInt8 := [97, 110, 100]
def Gf : List UInt8 := [110, 111, 116]
def pI : List UInt8 := [114, 111, 119]
def qw (l : List Tok) : Bool := match l with
 | t :: u :: _ => decide (u.at_ = t.at_ + 1) && (match u.tx with
  | c :: _ => bI c
  | [] => false)
 | _ => false
def dF (w : List UInt8) : Bool := (match w with
 | c :: _ => bI c || decide (c = 64) || decide (c = 35) || decide (c = 39) || decide (c = 123)
 | [] => false) || decide (w = iP) || decide (w = dV)
def fM (w : List UInt8) : Bool := match w with
 | c :: _ => decide (c = 123)
 | [] => false
def nameB (w : List UInt8) : Bool := (match w with
 | c :: _ => dE c
 | [] => false) && !aB.contains w
def jH (t : Tok) (r : List Tok) : Bool := match r with
 | u :: _ => decide (u.tx = [40]) && decide (u.at_ = t.at_ + t.tx.length)
 | [] => false
def cZ (w : List UInt8) : Int := match ([1, 2, 3, 4, 5, 6] : List Int).find? (fun o => decide (pF o = w)) with
 | some o => o
 | none => 0
def gm (w : List UInt8) : Int := match uA.find? (fun p => decide (p.2 = w)) with
 | some p => p.1
 | none => 0
def nameAt (l : List Tok) : Option (List UInt8) := match l with
 | t :: _ => if !t.touch && nameB t.tx then some t.tx else none
 | [] => none
def jO.bind (r : jO) (k : List Ex → List Tok → jO) : jO := match r with
 | .ok es l => k es l
 | .err p => .err p
def aN (n : Nat) (w : List UInt8) (l : List Tok) (k : List Tok → jO) : jO := if kU l w then k l.tail else .err (dO n l)
noncomputable def dB (n : Nat) (p : NT → List Ex → List Tok → jO) (nt : NT) (acc : List Ex) (l : List Tok) : jO := match nt with
 | .or => (p .and [] l).bind fun es l1 => p .Ia es l1
 | .Ia => if kU l QU then (p .and [] l.tail).bind fun es l1 => p .Ia (acc ++ es) l1 else .ok (pG 3 acc) l
 | .and => (p .not [] l).bind fun es l1 => p .tZ es l1
 | .tZ => if kU l zL then (p .not [] l.tail).bind fun es l1 => p .tZ (acc ++ es) l1 else .ok (pG 2 acc) l
 | .not => if kU l Gf then (p .not [] l.tail).bind fun es l1 => .ok [bQ 1 es] l1 else
    (p .sum [] l).bind fun es l1 => if bJ 4 11 l1 = 0 then .ok es l1 else (p .sum [] l1.tail).bind fun es2 l2 => .ok [bQ (bJ 4 11 l1) (es ++ es2)] l2
 | .sum => (p .product [] l).bind fun es l1 => p .uf es l1
 | .uf => if bJ 15 16 l = 0 then .ok acc l else (p .product [] l.tail).bind fun es l1 => p .uf [bQ (bJ 15 16 l) (acc ++ es)] l1
 | .product => (p .minus [] l).bind fun es l1 => p .fH es l1
 | .fH => if bJ 17 19 l = 0 then .ok acc l else (p .minus [] l.tail).bind fun es l1 => p .fH [bQ (bJ 17 19 l) (acc ++ es)] l1
 | .minus => if kU l [45] then
    (if qw l then (match l with
     | t :: u :: r => (match fQ (45 :: u.tx) with
      | some v => .ok [dX v] r
      | none => .err t.at_)
     | _ => .err 0)
    else (p .minus [] l.tail).bind fun es l1 => .ok [bQ 20 es] l1)
    else p .az [] l
 | .az => match l with
   | [] => .err n
   | t :: r =>
    if t.touch then .err t.at_ else
    if dF t.tx then (match fQ (if fM t.tx then iE t.tx else t.tx) with
     | some v => .ok [dX v] r
     | none => .err t.at_) else
    if t.tx = [40] then (p .or [] r).bind fun es l1 => aN n [41] l1 fun l2 => .ok es l2 else
    if nameB t.tx = false then .err t.at_ else
    if jH t r = false then .ok [bP 2 0 t.tx []] r else
    if cZ t.tx ≠ 0 then (match nameAt r.tail with
     | none => .err (dO n r.tail)
     | some nm => aN n [58] r.tail.tail fun l1 => (p .or [] l1).bind fun es l2 => aN n [41] l2 fun l3 => .ok [bP 5 (cZ t.tx) nm es] l3) else
    if gm t.tx ≠ 0 then (p (.args (gm t.tx)) [] r.tail).bind fun es l1 => aN n [41] l1 fun l2 => .ok [bQ (gm t.tx) es] l2 else
    if t.tx = pI then (match nameAt r.tail with
     | none => .err (dO n r.tail)
     | some nm => aN n [41] r.tail.tail fun l1 => .ok [bP 3 0 nm []] l1) else
    .ok [bP 2 0 t.tx []] r
 | .args o => (p .or [] l).bind fun es l1 => p (.lS o) es l1
 | .lS o => if acc.length < (iU o).1 ∨ (kU l [44] = true ∧ acc.length < (iU o).2) then aN n [44] l fun l1 => (p .or [] l1).bind fun es l2 => p (.lS o) (acc ++ es) l2 else .ok acc l
noncomputable def P (n : Nat) : Nat → NT → List Ex → List Tok → jO
 | 0, _, _, _ => .err 0
 | f + 1, nt, acc, l => dB n (P n f) nt acc l
def iF : NT → Nat
 | .az => 1
 | .minus => 2
 | .fH => 2
 | .product => 3
 | .uf => 3
 | .sum => 4
 | .not => 5
 | .tZ => 5
 | .and => 6
 | .Ia => 6
 | .or => 7
 | .lS _ => 7
 | .args _ => 8
theorem gp {r : jO} {k : List Ex → List Tok → jO} {m : Nat} {es : List Ex} {l' : List Tok} (h : r.bind k = .ok es l') (h1 : ∀ es1 l1, r = .ok es1 l1 → l1.length ≤ m) (h2 : ∀ es1 l1, l1.length ≤ m → k es1 l1 = .ok es l' → l'.length ≤ m) : l'.length ≤ m := by
 cases r with
 | err p => cases h
 | ok es1 l1 => exact h2 es1 l1 (h1 es1 l1 rfl) h
theorem take_len {n m : Nat} {w : List UInt8} {l : List Tok} {k : List Tok → jO} {es : List Ex} {l' : List Tok} (h : aN n w l k = .ok es l') (hm : l.length ≤ m) (h2 : ∀ l1, l1.length ≤ m → k l1 = .ok es l' → l'.length ≤ m) : l'.length ≤ m := by
 unfold aN at h
 split at h
 ·
  exact h2 _ (by rw [List.length_tail]; omega) h
 ·
  cases h
theorem rU {l : List Tok} {m : Nat} (h : l.length ≤ m) : l.tail.length ≤ m := by rw [List.length_tail]; omega
theorem nU (n : Nat) : ∀ (f : Nat) (nt : NT) (acc : List Ex) (l : List Tok) (es : List Ex) (l' : List Tok) (m : Nat), P n f nt acc l = .ok es l' → l.length ≤ m → l'.length ≤ m
 | 0, _, _, _, _, _, _, h, _ => by cases h
 | f + 1, nt, acc, l, es, l', m, h, hm => by
  have ih := nU n f
  have ht := rU hm
  rw [P] at h
  cases nt <;> dsimp only [dB] at h
  case or => exact gp h (fun _ _ h => ih _ _ _ _ _ _ h hm) (fun _ _ hl h => ih _ _ _ _ _ _ h hl)
  case Ia =>
   split at h
   ·
    exact gp h (fun _ _ h => ih _ _ _ _ _ _ h ht) (fun _ _ hl h => ih _ _ _ _ _ _ h hl)
   ·
    cases h; exact hm
  case and => exact gp h (fun _ _ h => ih _ _ _ _ _ _ h hm) (fun _ _ hl h => ih _ _ _ _ _ _ h hl)
  case tZ =>
   split at h
   ·
    exact gp h (fun _ _ h => ih _ _ _ _ _ _ h ht) (fun _ _ hl h => ih _ _ _ _ _ _ h hl)
   ·
    cases h; exact hm
  case not =>
   split at h
   ·
    exact gp h (fun _ _ h => ih _ _ _ _ _ _ h ht) (fun _ _ hl h => by cases h; exact hl)
   ·
    refine gp h (fun _ _ h => ih _ _ _ _ _ _ h hm) (fun _ _ hl h => ?_)
    split at h
    ·
     cases h; exact hl
    ·
     exact gp h (fun _ _ h => ih _ _ _ _ _ _ h (rU hl)) (fun _ _ hl h => by cases h; exact hl)
  case sum => exact gp h (fun _ _ h => ih _ _ _ _ _ _ h hm) (fun _ _ hl h => ih _ _ _ _ _ _ h hl)
  case uf =>
   split at h
   ·
    cases h; exact hm
   ·
    exact gp h (fun _ _ h => ih _ _ _ _ _ _ h ht) (fun _ _ hl h => ih _ _ _ _ _ _ h hl)
  case product => exact gp h (fun _ _ h => ih _ _ _ _ _ _ h hm) (fun _ _ hl h => ih _ _ _ _ _ _ h hl)
  case fH =>
   split at h
   ·
    cases h; exact hm
   ·
    exact gp h (fun _ _ h => ih _ _ _ _ _ _ h ht) (fun _ _ hl h => ih _ _ _ _ _ _ h hl)
  case minus =>
   split at h
   ·
    split at h
    ·
     split at h
     ·
      split at h
      ·
       cases h; simp only [List.length_cons] at hm; omega
      ·
       cases h
     ·
      cases h
    ·
     exact gp h (fun _ _ h => ih _ _ _ _ _ _ h ht) (fun _ _ hl h => by cases h; exact hl)
   ·
    exact ih _ _ _ _ _ _ h hm
  case az =>
   split at h
   ·
    cases h
   ·
    rename_i t r
    have hr : r.length ≤ m := by rw [List.length_cons] at hm; omega
    split at h
    ·
     cases h
    split at h
    ·
     split at h
     ·
      cases h; exact hr
     ·
      cases h
    split at h
    ·
     exact gp h (fun _ _ h => ih _ _ _ _ _ _ h hr) (fun _ _ hl h => take_len h hl (fun _ hl h => by cases h; exact hl))
    split at h
    ·
     cases h
    split at h
    ·
     cases h; exact hr
    split at h
    ·
     split at h
     ·
      cases h
     ·
      exact take_len h (rU (rU hr)) (fun _ hl h => gp h (fun _ _ h => ih _ _ _ _ _ _ h hl) (fun _ _ hl h => take_len h hl (fun _ hl h => by cases h; exact hl)))
    split at h
    ·
     exact gp h (fun _ _ h => ih _ _ _ _ _ _ h (rU hr)) (fun _ _ hl h => take_len h hl (fun _ hl h => by cases h; exact hl))
    split at h
    ·
     split at h
     ·
      cases h
     ·
      exact take_len h (rU (rU hr)) (fun _ hl h => by cases h; exact hl)
    ·
     cases h; exact hr
  case args => exact gp h (fun _ _ h => ih _ _ _ _ _ _ h hm) (fun _ _ hl h => ih _ _ _ _ _ _ h hl)
  case lS =>
   split at h
   ·
    exact take_len h hm (fun _ hl h => gp h (fun _ _ h => ih _ _ _ _ _ _ h hl) (fun _ _ hl h => ih _ _ _ _ _ _ h hl))
   ·
    cases h; exact hm
noncomputable def nI (s : List UInt8) : Ex × Nat × Int :=
 if 4000 < s.length then (.mk 0 0 ⟨#[]⟩ je [], 0, 2) else match P s.length (12 * (wordsOf s 0).length + 7) .or [] (wordsOf s 0) with
  | .err k => (.mk 0 0 ⟨#[]⟩ je [], k, 10)
  | .ok _ (t :: _) => (.mk 0 0 ⟨#[]⟩ je [], t.at_, 10)
  | .ok es [] => if ik (es.getD 0 (.mk 0 0 ⟨#[]⟩ je [])) ≠ 0 then (.mk 0 0 ⟨#[]⟩ je [], 0, ik (es.getD 0 (.mk 0 0 ⟨#[]⟩ je []))) else (es.getD 0 (.mk 0 0 ⟨#[]⟩ je []), 0, 0)
end Go.Proofs.YtobanldeicclmaaGreatDoor
namespace Go.Proofs.YtobanldeicclmaaGreatDoor
def kH (nt : NT) (l : List Tok) : Nat := 12 * l.length + iF nt
structure Agree (m : Nat) (p q : NT → List Ex → List Tok → jO) : Prop where
 eq : ∀ nt acc l, kH nt l ≤ m → p nt acc l = q nt acc l
 len : ∀ nt acc l es l', p nt acc l = .ok es l' → l'.length ≤ l.length
theorem bind_congr {r r' : jO} {k k' : List Ex → List Tok → jO} {m : Nat} (hr : r = r') (hl : ∀ es l, r = .ok es l → l.length ≤ m) (hk : ∀ es l, l.length ≤ m → k es l = k' es l) : r.bind k = r'.bind k' := by
 subst hr
 cases r with
 | err p => rfl
 | ok es l => exact hk es l (hl es l rfl)
theorem Ak {n m : Nat} {w : List UInt8} {l : List Tok} {k k' : List Tok → jO} (hl : l.length ≤ m) (hk : ∀ l, l.length + 1 ≤ m → k l = k' l) : aN n w l k = aN n w l k' := by
 unfold aN
 split
 ·
  rename_i h
  cases l with
  | nil => cases h
  | cons t r => exact hk _ (by simpa using hl)
 ·
  rfl
theorem zT {l : List Tok} {w : List UInt8} (h : kU l w = true) : l.tail.length + 1 = l.length := by
 cases l with
 | nil => cases h
 | cons t r => rfl
theorem Am {a b : Int} {l : List Tok} (h : bJ a b l ≠ 0) : l.tail.length + 1 = l.length := by
 cases l with
 | cons t r => rfl
 | nil =>
  refine absurd ?_ h
  unfold bJ
  rw [if_neg (by simp [kU])]
  rw [List.find?_eq_none.2 (fun o _ => by simp [kU])]
theorem Ap {n m : Nat} {p q : NT → List Ex → List Tok → jO} (h : Agree m p q) (nt : NT) (acc : List Ex) (l : List Tok) (hb : kH nt l ≤ m + 1) : dB n p nt acc l = dB n q nt acc l := by
 have H := h.eq
 have L := h.len
 unfold kH at H hb
 cases nt <;> dsimp only [dB, iF] at hb ⊢
 case or => exact bind_congr (m := l.length) (H _ _ _ (by simp only [iF]; omega)) (fun _ _ e => L _ _ _ _ _ e) (fun _ _ hl => H _ _ _ (by simp only [iF]; omega))
 case Ia =>
  split
  ·
   rename_i hw
   have := zT hw
   exact bind_congr (m := l.tail.length) (H _ _ _ (by simp only [iF]; omega)) (fun _ _ e => L _ _ _ _ _ e) (fun _ _ hl => H _ _ _ (by simp only [iF]; omega))
  ·
   rfl
 case and => exact bind_congr (m := l.length) (H _ _ _ (by simp only [iF]; omega)) (fun _ _ e => L _ _ _ _ _ e) (fun _ _ hl => H _ _ _ (by simp only [iF]; omega))
 case tZ =>
  split
  ·
   rename_i hw
   have := zT hw
   exact bind_congr (m := l.tail.length) (H _ _ _ (by simp only [iF]; omega)) (fun _ _ e => L _ _ _ _ _ e) (fun _ _ hl => H _ _ _ (by simp only [iF]; omega))
  ·
   rfl
 case not =>
  split
  ·
   rename_i hw
   have := zT hw
   exact bind_congr (m := l.tail.length) (H _ _ _ (by simp only [iF]; omega)) (fun _ _ e => L _ _ _ _ _ e) (fun _ _ hl => rfl)
  ·
   refine bind_congr (m := l.length) (H _ _ _ (by simp only [iF]; omega)) (fun _ _ e => L _ _ _ _ _ e) (fun _ l1 hl => ?_)
   split
   ·
    rfl
   ·
    rename_i hs
    have := Am hs
    exact bind_congr (m := l1.tail.length) (H _ _ _ (by simp only [iF]; omega)) (fun _ _ e => L _ _ _ _ _ e) (fun _ _ hl => rfl)
 case sum => exact bind_congr (m := l.length) (H _ _ _ (by simp only [iF]; omega)) (fun _ _ e => L _ _ _ _ _ e) (fun _ _ hl => H _ _ _ (by simp only [iF]; omega))
 case uf =>
  split
  ·
   rfl
  ·
   rename_i hs
   have := Am hs
   exact bind_congr (m := l.tail.length) (H _ _ _ (by simp only [iF]; omega)) (fun _ _ e => L _ _ _ _ _ e) (fun _ _ hl => H _ _ _ (by simp only [iF]; omega))
 case product => exact bind_congr (m := l.length) (H _ _ _ (by simp only [iF]; omega)) (fun _ _ e => L _ _ _ _ _ e) (fun _ _ hl => H _ _ _ (by simp only [iF]; omega))
 case fH =>
  split
  ·
   rfl
  ·
   rename_i hs
   have := Am hs
   exact bind_congr (m := l.tail.length) (H _ _ _ (by simp only [iF]; omega)) (fun _ _ e => L _ _ _ _ _ e) (fun _ _ hl => H _ _ _ (by simp only [iF]; omega))
 case minus =>
  split
  ·
   rename_i hw
   have := zT hw
   split
   ·
    rfl
   ·
    exact bind_congr (m := l.tail.length) (H _ _ _ (by simp only [iF]; omega)) (fun _ _ e => L _ _ _ _ _ e) (fun _ _ hl => rfl)
  ·
   exact H _ _ _ (by simp only [iF]; omega)
 case az =>
  split
  ·
   rfl
  ·
   rename_i t r
   have htl : r.tail.length ≤ r.length := by rw [List.length_tail]; omega
   have Ya : r.tail.tail.length ≤ r.length := by rw [List.length_tail]; omega
   simp only [List.length_cons] at hb
   split
   ·
    rfl
   split
   ·
    rfl
   split
   ·
    exact bind_congr (m := r.length) (H _ _ _ (by simp only [iF]; omega)) (fun _ _ e => L _ _ _ _ _ e) (fun _ _ hl => rfl)
   split
   ·
    rfl
   split
   ·
    rfl
   split
   ·
    split
    ·
     rfl
    ·
     exact Ak (m := r.length) Ya (fun l1 hl => bind_congr (m := r.length) (H _ _ _ (by simp only [iF]; omega)) (fun _ _ e => Nat.le_trans (L _ _ _ _ _ e) (by omega)) (fun _ _ _ => rfl))
   split
   ·
    exact bind_congr (m := r.length) (H _ _ _ (by simp only [iF]; omega)) (fun _ _ e => Nat.le_trans (L _ _ _ _ _ e) (by omega)) (fun _ _ hl => rfl)
   ·
    rfl
 case args => exact bind_congr (m := l.length) (H _ _ _ (by simp only [iF]; omega)) (fun _ _ e => L _ _ _ _ _ e) (fun _ _ hl => H _ _ _ (by simp only [iF]; omega))
 case lS =>
  split
  ·
   exact Ak (m := l.length) (Nat.le_refl _) (fun l1 hl => bind_congr (m := l1.length) (H _ _ _ (by simp only [iF]; omega)) (fun _ _ e => L _ _ _ _ _ e) (fun _ _ hl => H _ _ _ (by simp only [iF]; omega)))
  ·
   rfl
theorem RF (n : Nat) : ∀ (f f' : Nat) (nt : NT) (acc : List Ex) (l : List Tok), kH nt l ≤ f → kH nt l ≤ f' → P n f nt acc l = P n f' nt acc l
 | 0, _, nt, _, _, h, _ => by unfold kH at h; cases nt <;> simp [iF] at h
 | _ + 1, 0, nt, _, _, _, h => by unfold kH at h; cases nt <;> simp [iF] at h
 | f + 1, f' + 1, nt, acc, l, h, h' => by
  rw [P, P]
  refine Ap (m := min f f') ⟨fun nt acc l hb => RF n f f' nt acc l (Nat.le_trans hb (Nat.min_le_left _ _)) (Nat.le_trans hb (Nat.min_le_right _ _)), fun nt acc l es l' e => nU n f nt acc l es l' _ e (Nat.le_refl _)⟩ nt acc l (by omega)
noncomputable def Pz (n : Nat) (nt : NT) (acc : List Ex) (l : List Tok) : jO := P n (kH nt l) nt acc l
theorem rV {n : Nat} {nt : NT} {acc : List Ex} {l : List Tok} {es : List Ex} {l' : List Tok} (h : Pz n nt acc l = .ok es l') : l'.length ≤ l.length := nU n _ nt acc l es l' _ h (Nat.le_refl _)
theorem bW (n : Nat) (nt : NT) (acc : List Ex) (l : List Tok) : Pz n nt acc l = dB n (Pz n) nt acc l := by
 have h1 : ∃ m, kH nt l = m + 1 := by
  unfold kH
  cases nt <;> exact ⟨_, rfl⟩
 obtain ⟨m, hm⟩ := h1
 unfold Pz
 rw [hm, P]
 exact Ap (m := m) ⟨fun nt acc l hb => RF n m _ nt acc l hb (Nat.le_refl _), fun nt acc l es l' e => nU n m nt acc l es l' _ e (Nat.le_refl _)⟩ nt acc l (by omega)
theorem OH (s : List UInt8) : P s.length (12 * (wordsOf s 0).length + 7) .or [] (wordsOf s 0) = Pz s.length .or [] (wordsOf s 0) := rfl
end Go.Proofs.YtobanldeicclmaaGreatDoor
namespace Go.Proofs.YtobanldeicclmaaGreatDoor.Vtx
open Go.Lib Dig
theorem tN (l : List UInt8) (c : UInt8) : ∃ k, l = trimRightB l c ++ List.replicate k c := by
 have h := List.takeWhile_append_dropWhile (p := fun b : UInt8 => b == c) (l := l.reverse)
 have hr : l = (l.reverse.dropWhile (· == c)).reverse ++ (l.reverse.takeWhile (· == c)).reverse := by
  have := congrArg List.reverse h
  rw [List.reverse_append, List.reverse_reverse] at this
  exact this.symm
 refine ⟨(l.reverse.takeWhile (· == c)).length, ?_⟩
 have hk : (l.reverse.takeWhile (· == c)).reverse = List.replicate (l.reverse.takeWhile (· == c)).length c := by
  rw [List.eq_replicate_iff]
  refine ⟨by simp, fun b hb => ?_⟩
  have := List.all_eq_true.1 (List.all_takeWhile (p := fun b : UInt8 => b == c) (l := l.reverse)) b (List.mem_reverse.1 hb)
  simpa using this
 rw [← hk]
 exact hr
theorem uD {m : Nat} (h : m < 10000) : OG (fG m) 4 = iO 4 m ∧ (fG m).length ≤ 4 := by
 have hl : (decDigits m).length ≤ 4 := cO 3 m h
 obtain ⟨k, hk⟩ := tN (iO 4 m) 48
 have hlen := jG hl
 have e := congrArg List.length hk
 rw [hlen] at e
 simp only [List.length_append, List.length_replicate] at e
 unfold OG fG
 refine ⟨?_, by omega⟩
 rw [show 4 - (trimRightB (iO 4 (m : Int)) 48).length = k by omega]
 exact hk.symm
theorem RG (m : Nat) : ∀ b ∈ fG m, cu b := by
 intro b hb
 obtain ⟨k, hk⟩ := tN (iO 4 m) 48
 exact oK 4 m b (by rw [hk]; exact List.mem_append_left _ hb)
theorem RH {m : Nat} (h : m < 10000) : fG m = [] ↔ m = 0 := by
 constructor
 ·
  intro e
  have := (uD h).1
  rw [e] at this
  have h2 := congrArg dC this
  rw [F7] at h2
  rw [← h2]; rfl
 ·
  intro e
  subst e
  decide +kernel
theorem vz {n : Int} (h1 : -999999999999999 ≤ n) (h2 : n ≤ 999999999999999) : ∃ F M : Nat, F ≤ 99999999999 ∧ M < 10000 ∧ mZ n = ((F * 10000 + M : Nat) : Int) ∧
  mJ n = (if n < 0 then [45] else []) ++ decDigits F ++ (if fG M = [] then [] else 46 :: fG M) := by
 have ha : 0 ≤ mZ n ∧ mZ n ≤ 999999999999999 := by unfold mZ; split <;> omega
 refine ⟨(mZ n).toNat / 10000, (mZ n).toNat % 10000, by omega, by omega, by omega, ?_⟩
 have e1 : mZ n / 10000 = (((mZ n).toNat / 10000 : Nat) : Int) := by omega
 have e2 : mZ n % 10000 = (((mZ n).toNat % 10000 : Nat) : Int) := by omega
 unfold mJ
 rw [e1, e2, jd]
theorem mM (F : Nat) : ∃ b r, decDigits F = b :: r ∧ cu b := by
 cases h : decDigits F with
 | nil => exact absurd h (Ah F)
 | cons b r => exact ⟨b, r, rfl, nR F b (by rw [h]; exact List.mem_cons_self ..)⟩
theorem RI {b : UInt8} (h : cu b) {c : UInt8} (hc : ¬ cu c) : b ≠ c := fun e => hc (e ▸ h)
theorem EN {l : List UInt8} {b : UInt8} {r : List UInt8} (e : l = b :: r) (h : cu b) : hasPrefix l [45] = false := by
 subst e
 simp [hasPrefix, List.isPrefixOf]
 exact fun e => RI h Ry e.symm
theorem Aq {l : List UInt8} {b : UInt8} {r : List UInt8} (e : l = b :: r) (h : cu b) : trimPrefix l [45] = l := by
 unfold trimPrefix; rw [EN e h]; simp
theorem wS (l : List UInt8) : trimPrefix ([45] ++ l) [45] = l ∧ hasPrefix ([45] ++ l) [45] = true := by
 have h : hasPrefix ([45] ++ l) [45] = true := by simp [hasPrefix, List.isPrefixOf]
 exact ⟨by unfold trimPrefix; rw [if_pos h]; rfl, h⟩
theorem NC (F M : Nat) : (cut (decDigits F ++ (if fG M = [] then [] else 46 :: fG M)) [46]).1 = decDigits F ∧ (cut (decDigits F ++ (if fG M = [] then [] else 46 :: fG M)) [46]).2.1 = fG M := by
 have hF : (46 : UInt8) ∉ decDigits F := F8 (nR F) ack
 by_cases h : fG M = []
 ·
  rw [if_pos h, List.append_nil, Rz hF, h]; exact ⟨rfl, rfl⟩
 ·
  rw [if_neg h, X9 _ hF]; exact ⟨rfl, rfl⟩
theorem RJ {n : Int} (h1 : -999999999999999 ≤ n) (h2 : n ≤ 999999999999999) : jL (mJ n) = some n := by
 obtain ⟨F, M, hF, hM, hA, e⟩ := vz h1 h2
 obtain ⟨c1, c2⟩ := NC F M
 obtain ⟨p1, p2⟩ := uD hM
 have wF := yw (n := F) (by have := cO 10 F (by omega); omega)
 have wM := vw (w := 4) (n := M) (cO 3 M hM) (by decide)
 have lM := jG (w := 4) (n := M) (cO 3 M hM)
 have key : ∀ s, trimPrefix s [45] = decDigits F ++ (if fG M = [] then [] else 46 :: fG M) → jL s = some (if (decDigits F ++ (if fG M = [] then [] else 46 :: fG M)).length < s.length then -((F * 10000 + M : Nat) : Int) else ((F * 10000 + M : Nat) : Int)) := by
  intro s hs
  unfold jL
  simp only [hs, c1, c2, p1, wF, wM, lM]
  rw [if_pos ⟨trivial, trivial, by decide, hF⟩]
 by_cases hn : n < 0
 ·
  rw [if_pos hn, List.append_assoc] at e
  rw [key _ (by rw [e]; exact (wS _).1), e, if_pos (by simp), ← hA]
  unfold mZ; rw [if_pos hn]; simp
 ·
  rw [if_neg hn, List.nil_append] at e
  obtain ⟨b, r, hb, hd⟩ := mM F
  rw [key _ (by rw [e]; exact Aq (by rw [hb]; rfl) hd), e, if_neg (by omega), ← hA]
  unfold mZ; rw [if_neg hn]
theorem EO : ∀ (l : List UInt8) (acc : Nat), (∀ b ∈ l, cu b) → l.length ≤ 18 → acc < 10 ^ (18 - l.length) → parseUint10 acc l = .ok (acc * 10 ^ l.length + dC l)
 | [], acc, _, _, _ => by simp [parseUint10, dC]
 | b :: r, acc, h, hl, ha => by
  have hb := h b (List.mem_cons_self ..)
  unfold cu at hb
  simp only [List.length_cons] at hl ha
  have h17 : acc < 10 ^ 17 := Nat.lt_of_lt_of_le ha (Nat.pow_le_pow_right (by omega) (by omega))
  have hnext : acc * 10 + (b.toNat - 48) < 10 ^ (18 - r.length) := by
   rw [show 18 - r.length = (18 - (r.length + 1)) + 1 by omega, Nat.pow_succ]
   omega
  have h18 : acc * 10 + (b.toNat - 48) < 10 ^ 18 := Nat.lt_of_lt_of_le hnext (Nat.pow_le_pow_right (by omega) (by omega))
  unfold parseUint10
  rw [if_pos hb, if_neg (by omega), if_neg (by omega), EO r _ (fun x hx => h x (List.mem_cons_of_mem _ hx)) (by omega) hnext, ql]
  congr 1
  rw [List.length_cons, Nat.pow_succ, Nat.add_mul, Nat.add_assoc, Nat.mul_assoc, Nat.mul_comm 10]
theorem EP {l : List UInt8} (h : ∀ b ∈ l, cu b) (h0 : l ≠ []) (hl : l.length ≤ 18) : bM l = (dC l : Int) := by
 have hp := EO l 0 h hl (Nat.pow_pos (by omega))
 have hv : dC l < 10 ^ 18 := by
  have : ∀ (l : List UInt8), (∀ b ∈ l, cu b) → dC l < 10 ^ l.length := by
   intro l
   induction l with
   | nil => intro _; decide
   | cons b r ih =>
    intro h
    have hb := h b (List.mem_cons_self ..)
    have := ih (fun x hx => h x (List.mem_cons_of_mem _ hx))
    unfold cu at hb
    rw [ql, List.length_cons, Nat.pow_succ]
    have : (b.toNat - 48) * 10 ^ r.length ≤ 9 * 10 ^ r.length := Nat.mul_le_mul_right _ (by omega)
    omega
  exact Nat.lt_of_lt_of_le (this l h) (Nat.pow_le_pow_right (by omega) hl)
 cases l with
 | nil => exact absurd rfl h0
 | cons b r =>
  have hb := h b (List.mem_cons_self ..)
  unfold cu at hb
  simp only [Nat.zero_mul, Nat.zero_add] at hp
  unfold bM atoiAll
  have hc : ¬ (b.toNat = 43 ∨ b.toNat = 45) := by omega
  simp only [hc, if_false]
  unfold parseMag
  rw [if_neg h0, hp]
  have hneg : ¬ b.toNat = 45 := by omega
  simp only [hneg, not_false_eq_true, true_and, false_and, if_false]
  rw [if_neg (by omega)]
theorem yz {n : Nat} (h : n < 10 ^ 18) : bM (decDigits n) = n := by rw [EP (nR n) (Ah n) (cO 17 n h), wO]
theorem vC {w n : Nat} (h : (decDigits n).length ≤ w) (hw : w ≤ 18) : bM (iO w n) = n := by
 rw [EP (oK w n) (Rx w n) (by rw [jG h]; exact hw), F7]
theorem VD {n : Int} (h1 : -999999999999999 ≤ n) (h2 : n ≤ 999999999999999) : jc (mJ n) = n := by
 obtain ⟨F, M, hF, hM, hA, e⟩ := vz h1 h2
 obtain ⟨c1, c2⟩ := NC F M
 obtain ⟨p1, p2⟩ := uD hM
 have aF := yz (n := F) (by omega)
 have aM := vC (w := 4) (n := M) (cO 3 M hM) (by decide)
 have lF := cO 10 F (by omega)
 unfold OG at p1
 have key : ∀ s, trimPrefix s [45] = decDigits F ++ (if fG M = [] then [] else 46 :: fG M) → jc s = if hasPrefix s [45] then -((F : Int) * 10000 + M) else (F : Int) * 10000 + M := by
  intro s hs
  unfold jc
  simp only [hs, c1, c2, p1, aF, aM]
  rw [if_neg (by omega)]
 by_cases hn : n < 0
 ·
  rw [if_pos hn, List.append_assoc] at e
  rw [key _ (by rw [e]; exact (wS _).1), e, if_pos (wS _).2]
  unfold mZ at hA; rw [if_pos hn] at hA; omega
 ·
  rw [if_neg hn, List.nil_append] at e
  obtain ⟨b, r, hb, hd⟩ := mM F
  rw [key _ (by rw [e]; exact Aq (by rw [hb]; rfl) hd), e, EN (by rw [hb]; rfl) hd, if_neg (by decide)]
  unfold mZ at hA; rw [if_neg hn] at hA; omega
end Go.Proofs.YtobanldeicclmaaGreatDoor.Vtx
