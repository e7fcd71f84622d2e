/- The texts of values: what Show writes; what Read's readers make of a text. The plain mathematics: no program in sight. -/
import Derived.Test.YthnknmkekbledaaGreatDoorDig
import Derived.Test.YthnknmkekbledaaGreatDoorCal
import Derived.Test.YthnknmkekbledaaGreatDoorVrep
import Derived.Lib.Split
import Derived.Lib.TrimByte
import Derived.Lib.Strings
import Derived.Lib.Join
import Derived.Lib.Small
import Derived.Lib.AtoiAll
import Derived.Lib.SlTrimSet
namespace Go.Proofs.YthnknmkekbledaaGreatDoor.Vtx
open Go.Lib Dig

def padT (w : Nat) (n : Int) : List UInt8 := zeros (w - (itoa n).length) ++ itoa n
def fracT (m : Int) : List UInt8 := trimRightB (padT 4 m) 48
def absI (n : Int) : Int := if n < 0 then -n else n
def numT (n : Int) : List UInt8 := (if n < 0 then [45] else []) ++ itoa (absI n / 10000) ++ (if fracT (absI n % 10000) = [] then [] else 46 :: fracT (absI n % 10000))
def codeT (c : Int) : List UInt8 := 35 :: itoa c
def setT (l : List Int) : List UInt8 := 123 :: join (l.map codeT) [44] ++ [125]
noncomputable def dayT (n : Int) : List UInt8 := 64 :: padT 4 (Cal.cy n) ++ [45] ++ padT 2 (Cal.cm n) ++ [45] ++ padT 2 (Cal.cd n)
def w1T : List UInt8 := [100, 111, 110, 116, 107, 110, 111, 119]
def w2T : List UInt8 := [114, 101, 102, 117, 115, 101, 100]
def w3T : List UInt8 := [110, 111, 97, 110, 115, 119, 101, 114]
def trueT : List UInt8 := [116, 114, 117, 101]
def falseT : List UInt8 := [102, 97, 108, 115, 101]
def wordT (n : Int) : List UInt8 := if n = 1 then w1T else if n = 2 then w2T else w3T
def textT (s : List UInt8) : List UInt8 := 39 :: replaceAll s [39] [39, 39] ++ [39]
/-- the text of a value -/
noncomputable def showT (k n : Int) (s : List UInt8) (l : List Int) : List UInt8 :=
  if k = 1 then wordT n else if k = 2 then numT n else if k = 3 then textT s else if k = 4 then codeT n else if k = 5 then setT l else if k = 6 then dayT n else
  if k = 7 then (if n = 1 then trueT else falseT) else [45]

def digB (b : UInt8) : Bool := decide (48 ≤ b.toNat) && decide (b.toNat ≤ 57)
def wholeF (l : List UInt8) : Nat × Bool := if l = [] ∨ 15 < l.length then (0, false) else if l.all digB then (digVal l, true) else (0, false)
def padR (l : List UInt8) (k : Nat) : List UInt8 := l ++ zeros (k - l.length)
/-- readNumber: the number, if there is one -/
def readNumF (s : List UInt8) : Option Int :=
  let d := trimPrefix s [45]
  let part := padR (cut d [46]).2.1 4
  let a := wholeF (cut d [46]).1
  let b := wholeF part
  if a.2 = true ∧ b.2 = true ∧ part.length ≤ 4 ∧ a.1 ≤ 99999999999 then
    some (if d.length < s.length then -((a.1 * 10000 + b.1 : Nat) : Int) else ((a.1 * 10000 + b.1 : Nat) : Int)) else none
/-- the numbers of a set's parts, if all are numbers -/
def codesF : List (List UInt8) → Option (List Int)
  | [] => some []
  | p :: r => if (wholeF (trimPrefix p [35])).2 then (codesF r).map (((wholeF (trimPrefix p [35])).1 : Int) :: ·) else none
def innerF (s : List UInt8) : List UInt8 := trimSuffix (trimPrefix s [123]) [125]
def readSetF (s : List UInt8) : Option (List Int) := if innerF s = [] then some [] else codesF (split (innerF s) [44])
def dateK (y m d : Int) : Int := if Cal.okDate y m d = true then 6 else 0
def dateN (y m d : Int) : Int := if Cal.okDate y m d = true then Cal.num y m d else 0
def readDayF (r : List UInt8) : Option Int :=
  match split r [45] with
  | [a, b, c] => if (wholeF a).2 && (wholeF b).2 && (wholeF c).2 && Cal.okDate (wholeF a).1 (wholeF b).1 (wholeF c).1 then some (Cal.num (wholeF a).1 (wholeF b).1 (wholeF c).1) else none
  | _ => none
structure Q where
  k : Int
  n : Int
  s : List UInt8
  l : List Int
deriving DecidableEq
/-- the program's guess -/
def guessF (s : List UInt8) : Option Q :=
  if s = [] then none else if s = [45] then some ⟨0, 0, [], []⟩ else if s = trueT then some ⟨7, 1, [], []⟩ else if s = falseT then some ⟨7, 0, [], []⟩ else
  if s.head? = some 39 then some ⟨3, 0, replaceAll (trimSuffix s.tail [39]) [39, 39] [39], []⟩ else
  if s.head? = some 35 then (if (wholeF s.tail).2 then some ⟨4, (wholeF s.tail).1, [], []⟩ else none) else
  if s.head? = some 123 then (readSetF s).map (⟨5, 0, [], ·⟩) else
  if s.head? = some 64 then (readDayF s.tail).map (⟨6, ·, [], []⟩) else
  if s = w1T then some ⟨1, 1, [], []⟩ else if s = w2T then some ⟨1, 2, [], []⟩ else if s = w3T then some ⟨1, 3, [], []⟩ else
  (readNumF s).map (⟨2, ·, [], []⟩)

/-- the number that Atoi answers -/
def atoiN (l : List UInt8) : Int := match atoiAll l with
  | .ok v => v
  | .range => atoiSat l
  | _ => 0
def readDecF (s : List UInt8) : Int :=
  let c := cut (trimPrefix s [45]) [46]
  if 4 < c.2.1.length ∨ 12 < c.1.length then 0 else
    if hasPrefix s [45] then -(atoiN c.1 * 10000 + atoiN (c.2.1 ++ zeros (4 - c.2.1.length))) else atoiN c.1 * 10000 + atoiN (c.2.1 ++ zeros (4 - c.2.1.length))
def codesC (l : List (List UInt8)) : List Int := (l.filter (· ≠ [])).map fun p => atoiN (trimPrefix p [35])
/-- the reference's candidate -/
def candF (s : List UInt8) : Q :=
  if s = w1T then ⟨1, 1, [], []⟩ else if s = w2T then ⟨1, 2, [], []⟩ else if s = w3T then ⟨1, 3, [], []⟩ else
  if s = [45] then ⟨0, 0, [], []⟩ else if s = trueT then ⟨7, 1, [], []⟩ else if s = falseT then ⟨7, 0, [], []⟩ else
  if 1 < s.length ∧ s.head? = some 39 then ⟨3, 0, replaceAll ((s.take (s.length - 1)).drop 1) [39, 39] [39], []⟩ else
  if s.head? = some 35 then ⟨4, atoiN s.tail, [], []⟩ else
  if s.head? = some 123 then ⟨5, 0, [], codesC (split (trimS s [123, 125]) [44])⟩ else
  if s.length = 11 ∧ s.head? = some 64 then
    ⟨dateK (atoiN ((s.take 5).drop 1)) (atoiN ((s.take 8).drop 6)) (atoiN (s.drop 9)), dateN (atoiN ((s.take 5).drop 1)) (atoiN ((s.take 8).drop 6)) (atoiN (s.drop 9)), [], []⟩ else
  ⟨2, readDecF s, [], []⟩

/-- a sound value -/
inductive Snd : Int → Int → List UInt8 → List Int → Prop
  | none_ : Snd 0 0 [] []
  | word {n : Int} (h1 : 1 ≤ n) (h2 : n ≤ 3) : Snd 1 n [] []
  | num {n : Int} (h1 : -999999999999999 ≤ n) (h2 : n ≤ 999999999999999) : Snd 2 n [] []
  | text (s : List UInt8) : Snd 3 0 s []
  | code {n : Int} (h1 : 1 ≤ n) (h2 : n ≤ 999) : Snd 4 n [] []
  | set {l : List Int} (h : ∀ c ∈ l, 1 ≤ c ∧ c ≤ 999) : Snd 5 0 [] l
  | day {n : Int} (h1 : -25567 ≤ n) (h2 : n ≤ 84005) : Snd 6 n [] []
  | bool {n : Int} (h1 : 0 ≤ n) (h2 : n ≤ 1) : Snd 7 n [] []

/-! digits -/
theorem itoa_nat (n : Nat) : itoa (n : Int) = decDigits n := by unfold itoa; rw [if_neg (by omega)]; simp
theorem digB_of {l : List UInt8} (h : ∀ b ∈ l, isDig b) : l.all digB = true := by
  rw [List.all_eq_true]
  intro b hb
  have := h b hb
  unfold isDig at this
  simp [digB, this.1, this.2]
theorem whole_dig {l : List UInt8} (h : ∀ b ∈ l, isDig b) (h0 : l ≠ []) (hl : l.length ≤ 15) : wholeF l = (digVal l, true) := by
  unfold wholeF
  rw [if_neg (by simp [h0]; omega), if_pos (digB_of h)]
theorem dec_ne (n : Nat) : decDigits n ≠ [] := fun h => by have := dec_pos n; rw [h] at this; simp at this
theorem whole_dec {n : Nat} (h : (decDigits n).length ≤ 15) : wholeF (decDigits n) = (n, true) := by rw [whole_dig (dig_dec n) (dec_ne n) h, digVal_dec]
theorem pad_dig (w n : Nat) : ∀ b ∈ padT w n, isDig b := by
  intro b hb
  unfold padT at hb
  rw [itoa_nat] at hb
  rcases List.mem_append.1 hb with h | h
  · exact dig_zeros _ b h
  · exact dig_dec n b h
theorem pad_ne (w n : Nat) : padT w n ≠ [] := by unfold padT; rw [itoa_nat]; simp [dec_ne]
theorem pad_val (w n : Nat) : digVal (padT w n) = n := by unfold padT; rw [itoa_nat, digVal_zeros, digVal_dec]
theorem pad_len {w n : Nat} (h : (decDigits n).length ≤ w) : (padT w n).length = w := by unfold padT; rw [itoa_nat]; simp [zeros]; omega
theorem whole_pad {w n : Nat} (h : (decDigits n).length ≤ w) (hw : w ≤ 15) : wholeF (padT w n) = (n, true) := by
  rw [whole_dig (pad_dig w n) (pad_ne w n) (by rw [pad_len h]; exact hw), pad_val]
theorem dig_ne {l : List UInt8} (h : ∀ b ∈ l, isDig b) {c : UInt8} (hc : ¬ isDig c) : c ∉ l := fun hm => hc (h c hm)
theorem nd45 : ¬ isDig 45 := by unfold isDig; decide
theorem nd46 : ¬ isDig 46 := by unfold isDig; decide
theorem nd44 : ¬ isDig 44 := by unfold isDig; decide

/-! cut and split at one byte -/
theorem index_byte_none {c : UInt8} : ∀ {l : List UInt8}, c ∉ l → index l [c] = -1
  | [], _ => rfl
  | b :: r, h => by
    rw [index_cons, index_byte_none (fun hm => h (List.mem_cons_of_mem _ hm)), if_neg]
    · rfl
    · simp [List.isPrefixOf]
      exact fun e => h (by rw [e]; exact List.mem_cons_self ..)
theorem index_byte_at {c : UInt8} : ∀ {a : List UInt8} (b : List UInt8), c ∉ a → index (a ++ c :: b) [c] = a.length
  | [], b, _ => by rw [List.nil_append, index_cons, if_pos (by simp [List.isPrefixOf])]; rfl
  | x :: r, b, h => by
    rw [List.cons_append, index_cons, index_byte_at b (fun hm => h (List.mem_cons_of_mem _ hm)), if_neg, if_neg (by omega)]
    · simp
    · simp [List.isPrefixOf]
      exact fun e => h (by rw [e]; exact List.mem_cons_self ..)
theorem cut_none {c : UInt8} {l : List UInt8} (h : c ∉ l) : cut l [c] = (l, [], false) := by unfold cut; rw [index_byte_none h, if_neg (by decide)]
theorem cut_at {c : UInt8} {a : List UInt8} (b : List UInt8) (h : c ∉ a) : cut (a ++ c :: b) [c] = (a, b, true) := by
  unfold cut
  rw [index_byte_at b h, if_pos (by omega)]
  simp [List.drop_append]
theorem splitK_miss (sep : List UInt8) (save k : Nat) (s : List UInt8) (h : index s sep = -1) : splitK sep save k s = [s] := by
  cases k with
  | zero => rfl
  | succ k => unfold splitK; simp [h]
theorem split_one {c : UInt8} {l : List UInt8} (h : c ∉ l) : split l [c] = [l] := splitK_miss _ _ _ _ (index_byte_none h)
theorem split_at {c : UInt8} {a : List UInt8} (b : List UInt8) (h : c ∉ a) : split (a ++ c :: b) [c] = a :: split b [c] := by
  have hi := index_byte_at b h
  have hm : (index (a ++ c :: b) [c] == -1) = false := by rw [hi, beq_eq_false_iff_ne]; omega
  unfold split
  rw [count_hit (by simp) hi, Nat.add_comm, splitK]
  simp only [hm, Bool.false_eq_true, if_false]
  rw [hi]
  simp [List.drop_append, List.drop_eq_nil_of_le]
theorem split_join {c : UInt8} : ∀ {ps : List (List UInt8)}, ps ≠ [] → (∀ p ∈ ps, c ∉ p) → split (join ps [c]) [c] = ps
  | [], h, _ => absurd rfl h
  | [p], _, h => by rw [join_one]; exact split_one (h p (List.mem_cons_self ..))
  | p :: q :: r, _, h => by
    have e : join (p :: q :: r) [c] = p ++ c :: join (q :: r) [c] := by
      rw [join_cons, join_cons]; simp [joinTail]
    rw [e, split_at _ (h p (List.mem_cons_self ..)), split_join (by simp) (fun x hx => h x (List.mem_cons_of_mem _ hx))]
end Go.Proofs.YthnknmkekbledaaGreatDoor.Vtx
