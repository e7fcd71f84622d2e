/- Decimal texts: the plain mathematics. No program in sight. · The calendar, in plain mathematics: years, months, the number of a day, the date of a day. No program in sight. · ReplaceAll of quotes and back: the plain mathematics. No program in sight. · The texts of values: what Show writes; what Read's readers make of a text. The plain mathematics: no program in sight. · The text of an expression. The plain mathematics: no program in sight. · Expressions as they lie in memory; the count of an expression's parts. -/
import Derived.Test.YtcmccjcelchlhaaGreatDoorF1
import Derived.Lib.ItoaNum
import Derived.WalkKit
import Derived.Lib.Replace
import Derived.Lib.IndexMore
import Derived.Lib.Split
import Derived.Lib.TrimByte
import Derived.Lib.Strings
import Derived.Lib.Join
import Derived.Lib.Small
import Derived.Lib.AtoiAll
import Derived.Lib.SlTrimSet
import Derived.Outline
namespace Go.Proofs.YtcmccjcelchlhaaGreatDoor.Dig
open Limb

def isDig (b : UInt8) : Prop := 48 ≤ b.toNat ∧ b.toNat ≤ 57
def digVal (l : List UInt8) : Nat := l.foldl (fun n b => n * 10 + (b.toNat - 48)) 0
theorem foldl_dig (l : List UInt8) (n : Nat) : l.foldl (fun n b => n * 10 + (b.toNat - 48)) n = n * 10 ^ l.length + digVal l := by
  induction l generalizing n with
  | nil => simp [digVal]
  | cons b l ih =>
    have e : digVal (b :: l) = (b.toNat - 48) * 10 ^ l.length + digVal l := by
      unfold digVal
      rw [List.foldl_cons, ih, Nat.zero_mul, Nat.zero_add]
      rfl
    rw [List.foldl_cons, ih, e, List.length_cons, Nat.pow_succ, Nat.add_mul]
    have : n * 10 * 10 ^ l.length = n * (10 ^ l.length * 10) := by rw [Nat.mul_assoc, Nat.mul_comm 10]
    omega
theorem digVal_append (a b : List UInt8) : digVal (a ++ b) = digVal a * 10 ^ b.length + digVal b := by
  have := foldl_dig b (digVal a)
  unfold digVal at *
  rw [List.foldl_append, this]
theorem digVal_cons (b : UInt8) (l : List UInt8) : digVal (b :: l) = (b.toNat - 48) * 10 ^ l.length + digVal l := by
  have := digVal_append [b] l
  simpa [digVal] using this
theorem digVal_snoc (l : List UInt8) (b : UInt8) : digVal (l ++ [b]) = digVal l * 10 + (b.toNat - 48) := by
  simp [digVal]
theorem ofNat_dig {k : Nat} (h : k < 10) : (UInt8.ofNat (48 + k)).toNat = 48 + k := by
  rw [UInt8.toNat_ofNat']; omega
theorem digVal_dec (u : Nat) : digVal (Lib.decDigits u) = u := by
  induction u using Nat.strongRecOn with
  | _ u ih =>
    rw [Lib.decDigits]
    by_cases h : u < 10
    · rw [dif_pos h]
      simp only [digVal, List.foldl_cons, List.foldl_nil, ofNat_dig h]
      omega
    · rw [dif_neg h, digVal_snoc, ih (u / 10) (by omega), ofNat_dig (Nat.mod_lt _ (by omega))]
      omega
theorem dig_dec (u : Nat) : ∀ b ∈ Lib.decDigits u, isDig b := by
  induction u using Nat.strongRecOn with
  | _ u ih =>
    rw [Lib.decDigits]
    by_cases h : u < 10
    · rw [dif_pos h]
      intro b hb
      rw [List.mem_singleton.1 hb]
      unfold isDig
      rw [ofNat_dig h]
      omega
    · rw [dif_neg h]
      intro b hb
      rcases List.mem_append.1 hb with hb | hb
      · exact ih (u / 10) (by omega) b hb
      · rw [List.mem_singleton.1 hb]
        unfold isDig
        rw [ofNat_dig (Nat.mod_lt _ (by omega))]
        omega
theorem dec_len (k u : Nat) (h : u < 10 ^ (k + 1)) : (Lib.decDigits u).length ≤ k + 1 := by
  induction k generalizing u with
  | zero => rw [Lib.decDigits, dif_pos (by simpa using h)]; simp
  | succ k ih =>
    rw [Lib.decDigits]
    by_cases h0 : u < 10
    · rw [dif_pos h0]; simp
    · rw [dif_neg h0, List.length_append]
      have := ih (u / 10) (by rw [Nat.pow_succ] at h; omega)
      simp
      omega
theorem dec_pos (u : Nat) : 0 < (Lib.decDigits u).length := by
  rw [Lib.decDigits]
  split <;> simp
def zeros (k : Nat) : List UInt8 := List.replicate k 48
theorem digVal_zeros (k : Nat) (l : List UInt8) : digVal (zeros k ++ l) = digVal l := by
  induction k with
  | zero => rfl
  | succ k ih =>
    rw [zeros, List.replicate_succ, List.cons_append, digVal_cons]
    rw [show List.replicate k 48 ++ l = zeros k ++ l from rfl, ih]
    simp
theorem dig_zeros (k : Nat) : ∀ b ∈ zeros k, isDig b := fun b hb => by
  rw [(List.mem_replicate.1 hb).2]
  unfold isDig
  decide
/-- nine digits -/
def pad9 (n : Nat) : List UInt8 := zeros (9 - (Lib.decDigits n).length) ++ Lib.decDigits n
theorem pad9_len {n : Nat} (h : n < 1000000000) : (pad9 n).length = 9 := by
  have := dec_len 8 n (by simpa using h)
  simp [pad9, zeros]
  omega
theorem pad9_val (n : Nat) : digVal (pad9 n) = n := by rw [pad9, digVal_zeros, digVal_dec]
theorem pad9_dig (n : Nat) : ∀ b ∈ pad9 n, isDig b := fun b hb => by
  rcases List.mem_append.1 hb with hb | hb
  · exact dig_zeros _ b hb
  · exact dig_dec n b hb
/-- all limbs, the highest first, nine digits each -/
def allD : List Nat → List UInt8
  | [] => []
  | x :: r => allD r ++ pad9 x
theorem allD_val (l : List Nat) (h : Small l) : digVal (allD l) = val l ∧ (allD l).length = 9 * l.length := by
  induction l with
  | nil => exact ⟨rfl, rfl⟩
  | cons x r ih =>
    have ih := ih fun y hy => h y (List.mem_cons.2 (Or.inr hy))
    have hx := h x (List.mem_cons.2 (Or.inl rfl))
    rw [allD, digVal_append, pad9_len hx, pad9_val, ih.1, List.length_append, pad9_len hx, ih.2, val, List.length_cons]
    omega
theorem allD_dig (l : List Nat) : ∀ b ∈ allD l, isDig b := by
  induction l with
  | nil => intro b hb; cases hb
  | cons x r ih =>
    intro b hb
    rcases List.mem_append.1 hb with hb | hb
    · exact ih b hb
    · exact pad9_dig x b hb
theorem drop_val (l : List UInt8) : digVal (l.dropWhile (· == 48)) = digVal l := by
  induction l with
  | nil => rfl
  | cons b l ih =>
    by_cases h : b = 48
    · subst h
      rw [List.dropWhile_cons_of_pos (by decide), ih, digVal_cons]
      simp
    · rw [List.dropWhile_cons_of_neg (by simpa using h)]
/-- a natural's text -/
def decL (l : List Nat) : List UInt8 := if l = [] then [48] else (allD l).dropWhile (· == 48)
/-- sound digits: no other ahead, no 0 ahead of others -/
def Sound (s : List UInt8) : Prop := (∀ b ∈ s, isDig b) ∧ s ≠ [] ∧ (s.head? ≠ some 48 ∨ s = [48])
theorem decL_val {l : List Nat} (h : Small l) : digVal (decL l) = val l := by
  unfold decL
  split
  · rename_i e; subst e; rfl
  · rw [drop_val, (allD_val l h).1]
theorem decL_sound {l : List Nat} (h : Small l) (ht : Top l) : Sound (decL l) := by
  have hv := decL_val h
  unfold decL at *
  split at hv
  · rename_i e
    rw [if_pos e]
    exact ⟨by intro b hb; rw [List.mem_singleton.1 hb]; unfold isDig; decide, by simp, .inr rfl⟩
  · rename_i e
    rw [if_neg e]
    have hne : (allD l).dropWhile (· == 48) ≠ [] := by
      intro e0
      rw [e0] at hv
      exact e ((val_eq_zero ht).1 hv.symm)
    refine ⟨fun b hb => allD_dig l b ((List.dropWhile_sublist _).subset hb), hne, .inl ?_⟩
    intro e1
    have := List.head?_dropWhile_not (fun b : UInt8 => b == 48) (allD l)
    rw [e1] at this
    simp at this
/-- a natural has one list of limbs -/
theorem limbs_one {a b : List Nat} (ha : Small a) (hb : Small b) (hta : Top a) (htb : Top b) (h : val a = val b) : a = b := by
  induction a generalizing b with
  | nil => exact ((val_eq_zero htb).1 h.symm).symm
  | cons x r ih =>
    cases b with
    | nil => exact (val_eq_zero hta).1 h
    | cons y s =>
      have hx := ha x (List.mem_cons.2 (Or.inl rfl))
      have hy := hb y (List.mem_cons.2 (Or.inl rfl))
      simp only [val] at h
      have e1 : x = y := by omega
      have e2 : val r = val s := by omega
      rw [e1, ih (fun z hz => ha z (List.mem_cons.2 (Or.inr hz))) (fun z hz => hb z (List.mem_cons.2 (Or.inr hz))) (fun hn => by have := hta (List.cons_ne_nil _ _); rwa [List.getLast_cons hn] at this) (fun hn => by have := htb (List.cons_ne_nil _ _); rwa [List.getLast_cons hn] at this) e2]
/-- the limbs of a number, and its text -/
def limbs (n : Nat) : List Nat := if h : n = 0 then [] else n % 1000000000 :: limbs (n / 1000000000)
termination_by n
decreasing_by omega
theorem limbs_ok (n : Nat) : Small (limbs n) ∧ Top (limbs n) ∧ val (limbs n) = n := by
  induction n using Nat.strongRecOn with
  | _ n ih =>
    rw [limbs]
    split
    · rename_i h; subst h; exact ⟨Small.nil, fun h => absurd rfl h, rfl⟩
    · rename_i h
      obtain ⟨h1, h2, h3⟩ := ih (n / 1000000000) (by omega)
      refine ⟨fun y hy => ?_, fun hne => ?_, by rw [val, h3]; omega⟩
      · rcases List.mem_cons.1 hy with rfl | hy
        · omega
        · exact h1 y hy
      · by_cases hr : limbs (n / 1000000000) = []
        · rw [hr] at h3
          simp only [val] at h3
          simp only [hr, List.getLast_singleton]
          omega
        · rw [List.getLast_cons hr]
          exact h2 hr
def decS (n : Nat) : List UInt8 := decL (limbs n)
theorem decS_of {l : List Nat} {x : Nat} (h : Small l) (ht : Top l) (hv : val l = x) : decL l = decS x := by
  unfold decS
  obtain ⟨h1, h2, h3⟩ := limbs_ok x
  rw [limbs_one h h1 ht h2 (hv.trans h3.symm)]
theorem decS_val (n : Nat) : digVal (decS n) = n := by rw [decS, decL_val (limbs_ok n).1, (limbs_ok n).2.2]
theorem decS_sound (n : Nat) : Sound (decS n) := decL_sound (limbs_ok n).1 (limbs_ok n).2.1
theorem decS_inj {a b : Nat} (h : decS a = decS b) : a = b := by rw [← decS_val a, h, decS_val]
end Go.Proofs.YtcmccjcelchlhaaGreatDoor.Dig
namespace Go.Proofs.YtcmccjcelchlhaaGreatDoor.Cal

def lp (y : Int) : Bool := (decide (y % 4 = 0) && decide (y % 100 ≠ 0)) || decide (y % 400 = 0)
def dim (y m : Int) : Int := if m = 2 then (if lp y = true then 29 else 28) else if m = 4 ∨ m = 6 ∨ m = 9 ∨ m = 11 then 30 else 31
def yd (y : Int) : Int := if lp y = true then 366 else 365
def base (y : Int) : Int := 365 * (y - 1970) + ((y - 1) / 4 - (y - 1) / 100 + (y - 1) / 400) - 477
def fb (y : Int) : Int := if lp y = true then 29 else 28
/-- the days of a year ahead of month m -/
def cum (y m : Int) : Int :=
  if m ≤ 1 then 0 else if m = 2 then 31 else if m = 3 then 31 + fb y else if m = 4 then 62 + fb y else if m = 5 then 92 + fb y else if m = 6 then 123 + fb y else
  if m = 7 then 153 + fb y else if m = 8 then 184 + fb y else if m = 9 then 215 + fb y else if m = 10 then 245 + fb y else if m = 11 then 276 + fb y else if m = 12 then 306 + fb y else 337 + fb y
def num (y m d : Int) : Int := base y + cum y m + d - 1

theorem lp_cases (y : Int) : (lp y = true ∧ (y % 4 = 0 ∧ y % 100 ≠ 0 ∨ y % 400 = 0)) ∨ (lp y = false ∧ ¬ (y % 4 = 0 ∧ y % 100 ≠ 0 ∨ y % 400 = 0)) := by
  unfold lp
  by_cases a : y % 4 = 0 <;> by_cases b : y % 100 = 0 <;> by_cases c : y % 400 = 0 <;> simp [a, b, c] <;> omega
theorem base_succ (y : Int) : base (y + 1) = base y + yd y := by
  unfold base yd
  rcases lp_cases y with ⟨h, e⟩ | ⟨h, e⟩
  · rw [if_pos h]; omega
  · rw [if_neg (by rw [h]; simp)]; omega
theorem base_1970 : base 1970 = 0 := by decide
theorem base_1900 : base 1900 = -25567 := by decide
theorem base_2200 : base 2200 = 84006 := by decide
theorem yd_pos (y : Int) : 365 ≤ yd y ∧ yd y ≤ 366 := by unfold yd; split <;> omega
theorem base_mono {a b : Int} (h : a ≤ b) : base a ≤ base b := by unfold base; omega
theorem base_strict {a b : Int} (h : a < b) : base a + 365 ≤ base b := by
  have h1 := base_succ a
  have h2 := yd_pos a
  have h3 := base_mono (show a + 1 ≤ b by omega)
  omega
theorem fb_cases (y : Int) : (fb y = 29 ∧ yd y = 366 ∧ lp y = true) ∨ (fb y = 28 ∧ yd y = 365 ∧ lp y = false) := by
  unfold fb yd
  cases h : lp y <;> simp
theorem cum_succ (y m : Int) (h1 : 1 ≤ m) (h2 : m ≤ 12) : cum y (m + 1) = cum y m + dim y m := by
  have : m = 1 ∨ m = 2 ∨ m = 3 ∨ m = 4 ∨ m = 5 ∨ m = 6 ∨ m = 7 ∨ m = 8 ∨ m = 9 ∨ m = 10 ∨ m = 11 ∨ m = 12 := by omega
  rcases fb_cases y with ⟨hf, -, hl⟩ | ⟨hf, -, hl⟩ <;> rcases this with rfl | rfl | rfl | rfl | rfl | rfl | rfl | rfl | rfl | rfl | rfl | rfl <;> simp [cum, dim, hf, hl]
theorem cum_one (y : Int) : cum y 1 = 0 := by simp [cum]
theorem cum_13 (y : Int) : cum y 13 = yd y := by
  rcases fb_cases y with ⟨hf, hy, -⟩ | ⟨hf, hy, -⟩ <;> simp [cum, hf, hy]
theorem dim_bd (y m : Int) : 28 ≤ dim y m ∧ dim y m ≤ 31 := by unfold dim; repeat' split <;> omega
theorem cum_bd (y m : Int) : 0 ≤ cum y m ∧ cum y m ≤ 366 := by
  rcases fb_cases y with ⟨hf, -, -⟩ | ⟨hf, -, -⟩ <;> unfold cum <;> rw [hf] <;> repeat' split <;> omega
theorem cum_mono (y : Int) {a b : Int} (h : a ≤ b) (h1 : 1 ≤ a) (h2 : b ≤ 13) : cum y a ≤ cum y b := by
  obtain ⟨k, hk⟩ : ∃ k : Nat, b = a + k := ⟨(b - a).toNat, by omega⟩
  subst hk
  clear h
  induction k with
  | zero => simp
  | succ k ih =>
    have e := cum_succ y (a + k) (by omega) (by omega)
    have d := dim_bd y (a + k)
    have := ih (by omega)
    rw [show a + ((k + 1 : Nat) : Int) = a + k + 1 from by omega]
    omega
theorem base_bd (y : Int) (h1 : 1600 ≤ y) (h2 : y ≤ 2400) : -136000 ≤ base y ∧ base y ≤ 158000 := by unfold base; omega

structure IsCivil (n y m d : Int) : Prop where
  m1 : 1 ≤ m
  m2 : m ≤ 12
  d1 : 1 ≤ d
  d2 : d ≤ dim y m
  eq : num y m d = n

theorem IsCivil.year {n y m d : Int} (h : IsCivil n y m d) : base y ≤ n ∧ n < base (y + 1) := by
  have hc := cum_bd y m
  have hs := cum_succ y m h.m1 h.m2
  have hm := cum_mono y (show m + 1 ≤ 13 by have := h.m2; omega) (by have := h.m1; omega) (by omega)
  have h13 := cum_13 y
  have hb := base_succ y
  have := h.eq
  have := h.d1
  have := h.d2
  unfold num at *
  omega
theorem IsCivil.unique {n y m d y' m' d' : Int} (h : IsCivil n y m d) (h' : IsCivil n y' m' d') : y = y' ∧ m = m' ∧ d = d' := by
  have hy : y = y' := by
    have a := h.year
    have b := h'.year
    rcases Int.lt_trichotomy y y' with l | l | l
    · have := base_mono (show y + 1 ≤ y' by omega); omega
    · exact l
    · have := base_mono (show y' + 1 ≤ y by omega); omega
  subst hy
  have hm : m = m' := by
    have a := cum_succ y m h.m1 h.m2
    have b := cum_succ y m' h'.m1 h'.m2
    have := h.eq
    have := h.d1
    have := h.d2
    have := h'.eq
    have := h'.d1
    have := h'.d2
    unfold num at *
    rcases Int.lt_trichotomy m m' with l | l | l
    · have := cum_mono y (show m + 1 ≤ m' by omega) (by have := h.m1; omega) (by have := h'.m2; omega); omega
    · exact l
    · have := cum_mono y (show m' + 1 ≤ m by omega) (by have := h'.m1; omega) (by have := h.m2; omega); omega
  subst hm
  refine ⟨rfl, rfl, ?_⟩
  have := h.eq
  have := h'.eq
  unfold num at *
  omega

open Classical in
noncomputable def civ (n : Int) : Int × Int × Int := if h : ∃ p : Int × Int × Int, IsCivil n p.1 p.2.1 p.2.2 then Classical.choose h else (0, 0, 0)
theorem civ_eq {n y m d : Int} (h : IsCivil n y m d) : civ n = (y, m, d) := by
  have hex : ∃ p : Int × Int × Int, IsCivil n p.1 p.2.1 p.2.2 := ⟨(y, m, d), h⟩
  unfold civ
  rw [dif_pos hex]
  obtain ⟨e1, e2, e3⟩ := (Classical.choose_spec hex).unique h
  exact Prod.ext e1 (Prod.ext e2 e3)
noncomputable def cy (n : Int) : Int := (civ n).1
noncomputable def cm (n : Int) : Int := (civ n).2.1
noncomputable def cd (n : Int) : Int := (civ n).2.2
theorem IsCivil.cy {n y m d : Int} (h : IsCivil n y m d) : cy n = y := by unfold Cal.cy; rw [civ_eq h]
theorem IsCivil.cm {n y m d : Int} (h : IsCivil n y m d) : cm n = m := by unfold Cal.cm; rw [civ_eq h]
theorem IsCivil.cd {n y m d : Int} (h : IsCivil n y m d) : cd n = d := by unfold Cal.cd; rw [civ_eq h]
/-- the guess of the program for a year -/
def guess (n : Int) : Int := if n < 0 then 1970 + n.tdiv 365 - 1 else 1970 + n.tdiv 366
theorem guess_ok {n : Int} (h1 : -25567 ≤ n) (h2 : n ≤ 84005) : base (guess n) ≤ n ∧ 1899 ≤ guess n ∧ guess n ≤ 2199 := by
  unfold guess
  split
  · rename_i hn
    have e : n.tdiv 365 = -((-n) / 365) := by
      obtain ⟨k, rfl⟩ : ∃ k : Nat, n = -(k : Int) := ⟨n.natAbs, by omega⟩
      rw [Int.neg_tdiv, Int.tdiv_eq_ediv_of_nonneg (by omega)]
      simp
    rw [e]
    unfold base
    omega
  · rename_i hn
    rw [Int.tdiv_eq_ediv_of_nonneg (by omega)]
    unfold base
    omega
theorem tdiv_neg_eq {n : Int} (k : Int) (hn : n < 0) : n.tdiv k = -((-n) / k) := by
  obtain ⟨j, rfl⟩ : ∃ j : Nat, n = -(j : Int) := ⟨n.natAbs, by omega⟩
  rw [Int.neg_tdiv, Int.tdiv_eq_ediv_of_nonneg (by omega)]
  simp
theorem tdiv_bd {n : Int} (h1 : -25567 ≤ n) (h2 : n ≤ 84005) : -71 ≤ n.tdiv 365 ∧ n.tdiv 365 ≤ 231 ∧ -71 ≤ n.tdiv 366 ∧ n.tdiv 366 ≤ 231 := by
  by_cases hn : n < 0
  · rw [tdiv_neg_eq 365 hn, tdiv_neg_eq 366 hn]
    omega
  · rw [Int.tdiv_eq_ediv_of_nonneg (by omega), Int.tdiv_eq_ediv_of_nonneg (by omega)]
    omega
theorem range_year {n y : Int} (h1 : -25567 ≤ n) (h2 : n ≤ 84005) (h3 : base y ≤ n) (h4 : n < base (y + 1)) : 1900 ≤ y ∧ y ≤ 2199 := by
  have a := base_1900
  have b := base_2200
  constructor
  · by_cases h : 1900 ≤ y
    · exact h
    · have := base_mono (show y + 1 ≤ 1900 by omega); omega
  · by_cases h : y ≤ 2199
    · exact h
    · have := base_mono (show 2200 ≤ y by omega); omega
theorem civil_of {n y m : Int} (h1 : base y + cum y m ≤ n) (h2 : n < base y + cum y m + dim y m) (m1 : 1 ≤ m) (m2 : m ≤ 12) : IsCivil n y m (n - (base y + cum y m) + 1) :=
  ⟨m1, m2, by omega, by omega, by unfold num; omega⟩
/-- the date of a day in the range exists -/
theorem civil_ex {n : Int} (h1 : -25567 ≤ n) (h2 : n ≤ 84005) : ∃ y m d, IsCivil n y m d := by
  have hy : ∀ k : Nat, ∀ y, base y ≤ n → 2200 - y = k → ∃ y, base y ≤ n ∧ n < base (y + 1) := by
    intro k
    induction k with
    | zero => intro y hb hk; exact ⟨y, hb, by have := base_2200; have := base_mono (show 2200 ≤ y + 1 by omega); omega⟩
    | succ k ih =>
      intro y hb hk
      by_cases h : n < base (y + 1)
      · exact ⟨y, hb, h⟩
      · exact ih (y + 1) (by omega) (by omega)
  obtain ⟨y, hb, hl⟩ := hy 300 1900 (by have := base_1900; omega) (by omega)
  have hm : ∀ k : Nat, ∀ m, 1 ≤ m → m ≤ 12 → base y + cum y m ≤ n → 12 - m = k → ∃ m d, IsCivil n y m d := by
    intro k
    induction k with
    | zero =>
      intro m m1 m2 hc hk
      obtain rfl : m = 12 := by omega
      have := cum_succ y 12 (by omega) (by omega)
      have := cum_13 y
      have := base_succ y
      exact ⟨12, _, civil_of hc (by simp only [show (12 : Int) + 1 = 13 from rfl] at *; omega) (by omega) (by omega)⟩
    | succ k ih =>
      intro m m1 m2 hc hk
      by_cases h : n < base y + cum y (m + 1)
      · exact ⟨m, _, civil_of hc (by have := cum_succ y m m1 m2; omega) m1 m2⟩
      · exact ih (m + 1) (by omega) (by omega) (by omega) (by omega)
  obtain ⟨m, d, h⟩ := hm 11 1 (by omega) (by omega) (by rw [cum_one]; omega) (by omega)
  exact ⟨y, m, d, h⟩
theorem civ_spec {n : Int} (h1 : -25567 ≤ n) (h2 : n ≤ 84005) : IsCivil n (cy n) (cm n) (cd n) := by
  obtain ⟨y, m, d, h⟩ := civil_ex h1 h2
  rw [h.cy, h.cm, h.cd]
  exact h

/-- the Day of a date, as a kind and a number; (0, 0): Missing -/
def okDate (y m d : Int) : Bool := decide (1900 ≤ y) && decide (y ≤ 2199) && decide (1 ≤ m) && decide (m ≤ 12) && decide (1 ≤ d) && decide (d ≤ dim y m)
theorem okDate_iff (y m d : Int) : okDate y m d = true ↔ (1900 ≤ y ∧ y ≤ 2199) ∧ (1 ≤ m ∧ m ≤ 12) ∧ 1 ≤ d ∧ d ≤ dim y m := by
  simp only [okDate, Bool.and_eq_true, decide_eq_true_eq]
  omega
theorem num_range {y m d : Int} (m1 : 1 ≤ m) (m2 : m ≤ 12) (d1 : 1 ≤ d) (d2 : d ≤ dim y m) : (-25567 ≤ num y m d ∧ num y m d ≤ 84005) ↔ (1900 ≤ y ∧ y ≤ 2199) := by
  have h : IsCivil (num y m d) y m d := ⟨m1, m2, d1, d2, rfl⟩
  obtain ⟨h3, h4⟩ := h.year
  constructor
  · rintro ⟨h1, h2⟩
    exact range_year h1 h2 h3 h4
  · rintro ⟨h1, h2⟩
    have a := base_1900
    have b := base_2200
    have := base_mono h1
    have := base_mono (show y + 1 ≤ 2200 by omega)
    omega
def weekday (n : Int) : Int := (n + 3) % 7
end Go.Proofs.YtcmccjcelchlhaaGreatDoor.Cal
namespace Go.Proofs.YtcmccjcelchlhaaGreatDoor.Vtx
open Go.Lib

/-- what ReplaceAll makes of a text: one byte by a text -/
def subst1 (c : UInt8) (new : List UInt8) (s : List UInt8) : List UInt8 := s.flatMap fun b => if b = c then new else [b]
/-- two quotes by one, from the left -/
def unq : List UInt8 → List UInt8
  | a :: b :: r => if a = 39 ∧ b = 39 then 39 :: unq r else a :: unq (b :: r)
  | l => l
theorem replaceK_miss (old new : List UInt8) (k : Nat) (s : List UInt8) (h : index s old = -1) : replaceK old new k s = s := by
  cases k with
  | zero => rfl
  | succ k => unfold replaceK; rw [if_pos (by simp [h])]
theorem index_cons (b : UInt8) (l sub : List UInt8) : index (b :: l) sub = if sub.isPrefixOf (b :: l) then 0 else if index l sub = -1 then -1 else index l sub + 1 := by
  rw [index]
  simp
/-- one step of counting and replacing at the first byte -/
theorem count_le (s sub : List UInt8) (hs : sub ≠ []) : ∀ f, s.length < f → ∀ g, s.length < g → countFrom sub f s = countFrom sub g s := by
  intro f
  induction f generalizing s with
  | zero => intro h; omega
  | succ f ih =>
    intro h g hg
    cases g with
    | zero => omega
    | succ g =>
      unfold countFrom
      by_cases hi : index s sub = -1
      · simp [hi]
      · have hm : (index s sub == -1) = false := by simpa using hi
        have h0 := index_ge s sub
        have hr := index_room s sub (by omega)
        have hl : 0 < sub.length := List.length_pos_iff.2 hs
        simp only [hm, Bool.false_eq_true, if_false]
        congr 1
        exact ih _ (by simp; omega) g (by simp; omega)
theorem count_miss {s sub : List UInt8} (h : index s sub = -1) : count s sub = 0 := by unfold count countFrom; simp [h]
theorem count_hit {s sub : List UInt8} {i : Nat} (hs : sub ≠ []) (h : index s sub = i) : count s sub = 1 + count (s.drop (i + sub.length)) sub := by
  have hr := index_room s sub (by omega)
  have hl : 0 < sub.length := List.length_pos_iff.2 hs
  rw [count, countFrom]
  have hm : (index s sub == -1) = false := by rw [h]; rw [beq_eq_false_iff_ne]; omega
  simp only [hm, Bool.false_eq_true, if_false]
  rw [h, Int.toNat_natCast]
  congr 1
  unfold count
  exact count_le _ _ hs _ (by simp; omega) _ (by omega)
/-- ReplaceAll from the left -/
def repl (old new : List UInt8) : List UInt8 → List UInt8 := fun s => replaceK old new (count s old) s
theorem repl_miss {s old new : List UInt8} (h : index s old = -1) : repl old new s = s := replaceK_miss _ _ _ _ h
theorem repl_hit {s old new : List UInt8} {i : Nat} (hs : old ≠ []) (h : index s old = i) : repl old new s = s.take i ++ new ++ repl old new (s.drop (i + old.length)) := by
  unfold repl
  rw [count_hit hs h, Nat.add_comm, replaceK_hit _ _ _ _ _ h]
theorem replaceAll_repl {s old new : List UInt8} (h : old ≠ new) : replaceAll s old new = repl old new s := by
  unfold replaceAll replace replaceNum repl
  rw [if_neg (by simpa using h), if_pos (by simp)]
theorem repl_nil {old new : List UInt8} (hs : old ≠ []) : repl old new [] = [] := repl_miss (by cases old; exact absurd rfl hs; rfl)
theorem repl_here {old new r : List UInt8} (hs : old ≠ []) : repl old new (old ++ r) = new ++ repl old new r := by
  have h : index (old ++ r) old = (0 : Nat) := by
    refine index_first (Nat.zero_le _) ?_ (fun j hj => absurd hj (by omega))
    simp [occAt]
  rw [repl_hit hs h]
  simp
theorem repl_cons {old new r : List UInt8} {b : UInt8} (hs : old ≠ []) (h : old.isPrefixOf (b :: r) = false) : repl old new (b :: r) = b :: repl old new r := by
  have hi := index_cons b r old
  rw [h] at hi
  simp only [Bool.false_eq_true, if_false] at hi
  by_cases hr : index r old = -1
  · rw [if_pos hr] at hi
    rw [repl_miss hi, repl_miss hr]
  · rw [if_neg hr] at hi
    obtain ⟨i, hix⟩ : ∃ i : Nat, index r old = i := ⟨(index r old).toNat, by have := index_ge r old; omega⟩
    rw [repl_hit hs (i := i + 1) (by rw [hi, hix]; rfl), repl_hit hs hix]
    simp [Nat.add_right_comm]
theorem repl_subst1 (c : UInt8) (new s : List UInt8) : repl [c] new s = subst1 c new s := by
  induction s with
  | nil => exact repl_nil (by simp)
  | cons b r ih =>
    by_cases h : b = c
    · subst h
      have := repl_here (new := new) (r := r) (old := [b]) (by simp)
      simp only [List.singleton_append] at this
      rw [this, ih]; simp [subst1]
    · rw [repl_cons (by simp) (by simp [List.isPrefixOf]; exact fun e => h e.symm), ih]; simp [subst1, h]
theorem repl_unq (s : List UInt8) : repl [39, 39] [39] s = unq s := by
  induction s using unq.induct with
  | case1 a b r h ih =>
    obtain ⟨rfl, rfl⟩ := h
    have := repl_here (new := [39]) (r := r) (old := [39, 39]) (by simp)
    simp only [List.cons_append, List.nil_append] at this
    rw [this, ih, unq, if_pos ⟨rfl, rfl⟩]
  | case2 a b r h ih =>
    rw [repl_cons (by simp), ih, unq, if_neg h]
    simp only [List.isPrefixOf, Bool.and_true]
    rw [Bool.eq_false_iff]
    intro e
    simp at e
    exact h ⟨e.1.symm, e.2.symm⟩
  | case3 l h =>
    rcases l with _ | ⟨a, _ | ⟨b, r⟩⟩
    · rw [repl_nil (by simp)]; rfl
    · rw [repl_cons (by simp) (by simp [List.isPrefixOf]), repl_nil (by simp)]; rfl
    · exact absurd rfl (h a b r)
theorem unq_subst (s : List UInt8) : unq (subst1 39 [39, 39] s) = s := by
  induction s with
  | nil => rfl
  | cons b r ih =>
    by_cases h : b = 39
    · subst h
      have e : subst1 39 [39, 39] (39 :: r) = 39 :: 39 :: subst1 39 [39, 39] r := by simp [subst1]
      rw [e, unq, if_pos ⟨rfl, rfl⟩, ih]
    · have e : subst1 39 [39, 39] (b :: r) = b :: subst1 39 [39, 39] r := by simp [subst1, h]
      rw [e]
      cases hr : subst1 39 [39, 39] r with
      | nil => rw [hr] at ih; rw [← ih]; simp [unq]
      | cons d t => rw [unq, if_neg (by simp [h]), ← hr, ih]
theorem back (s : List UInt8) : replaceAll (replaceAll s [39] [39, 39]) [39, 39] [39] = s := by
  rw [replaceAll_repl (by simp), replaceAll_repl (by simp), repl_subst1, repl_unq, unq_subst]
end Go.Proofs.YtcmccjcelchlhaaGreatDoor.Vtx
namespace Go.Proofs.YtcmccjcelchlhaaGreatDoor.Vtx
open Go.Lib Dig

def padT (w : Nat) (n : Int) : List UInt8 := zeros (w - (itoa n).length) ++ itoa n
def fracT (m : Int) : List UInt8 := trimRightB (padT 4 m) 48
def absI (n : Int) : Int := if n < 0 then -n else n
def numT (n : Int) : List UInt8 := (if n < 0 then [45] else []) ++ itoa (absI n / 10000) ++ (if fracT (absI n % 10000) = [] then [] else 46 :: fracT (absI n % 10000))
def codeT (c : Int) : List UInt8 := 35 :: itoa c
def setT (l : List Int) : List UInt8 := 123 :: join (l.map codeT) [44] ++ [125]
noncomputable def dayT (n : Int) : List UInt8 := 64 :: padT 4 (Cal.cy n) ++ [45] ++ padT 2 (Cal.cm n) ++ [45] ++ padT 2 (Cal.cd n)
def w1T : List UInt8 := [100, 111, 110, 116, 107, 110, 111, 119]
def w2T : List UInt8 := [114, 101, 102, 117, 115, 101, 100]
def w3T : List UInt8 := [110, 111, 97, 110, 115, 119, 101, 114]
def trueT : List UInt8 := [116, 114, 117, 101]
def falseT : List UInt8 := [102, 97, 108, 115, 101]
def wordT (n : Int) : List UInt8 := if n = 1 then w1T else if n = 2 then w2T else w3T
def textT (s : List UInt8) : List UInt8 := 39 :: replaceAll s [39] [39, 39] ++ [39]
/-- the text of a value -/
noncomputable def showT (k n : Int) (s : List UInt8) (l : List Int) : List UInt8 :=
  if k = 1 then wordT n else if k = 2 then numT n else if k = 3 then textT s else if k = 4 then codeT n else if k = 5 then setT l else if k = 6 then dayT n else
  if k = 7 then (if n = 1 then trueT else falseT) else [45]

def digB (b : UInt8) : Bool := decide (48 ≤ b.toNat) && decide (b.toNat ≤ 57)
def wholeF (l : List UInt8) : Nat × Bool := if l = [] ∨ 15 < l.length then (0, false) else if l.all digB then (digVal l, true) else (0, false)
def padR (l : List UInt8) (k : Nat) : List UInt8 := l ++ zeros (k - l.length)
/-- readNumber: the number, if there is one -/
def readNumF (s : List UInt8) : Option Int :=
  let d := trimPrefix s [45]
  let part := padR (cut d [46]).2.1 4
  let a := wholeF (cut d [46]).1
  let b := wholeF part
  if a.2 = true ∧ b.2 = true ∧ part.length ≤ 4 ∧ a.1 ≤ 99999999999 then
    some (if d.length < s.length then -((a.1 * 10000 + b.1 : Nat) : Int) else ((a.1 * 10000 + b.1 : Nat) : Int)) else none
/-- the numbers of a set's parts, if all are numbers -/
def codesF : List (List UInt8) → Option (List Int)
  | [] => some []
  | p :: r => if (wholeF (trimPrefix p [35])).2 then (codesF r).map (((wholeF (trimPrefix p [35])).1 : Int) :: ·) else none
def innerF (s : List UInt8) : List UInt8 := trimSuffix (trimPrefix s [123]) [125]
def readSetF (s : List UInt8) : Option (List Int) := if innerF s = [] then some [] else codesF (split (innerF s) [44])
def dateK (y m d : Int) : Int := if Cal.okDate y m d = true then 6 else 0
def dateN (y m d : Int) : Int := if Cal.okDate y m d = true then Cal.num y m d else 0
def readDayF (r : List UInt8) : Option Int :=
  match split r [45] with
  | [a, b, c] => if (wholeF a).2 && (wholeF b).2 && (wholeF c).2 && Cal.okDate (wholeF a).1 (wholeF b).1 (wholeF c).1 then some (Cal.num (wholeF a).1 (wholeF b).1 (wholeF c).1) else none
  | _ => none
structure Q where
  k : Int
  n : Int
  s : List UInt8
  l : List Int
deriving DecidableEq
/-- the program's guess -/
def guessF (s : List UInt8) : Option Q :=
  if s = [] then none else if s = [45] then some ⟨0, 0, [], []⟩ else if s = trueT then some ⟨7, 1, [], []⟩ else if s = falseT then some ⟨7, 0, [], []⟩ else
  if s.head? = some 39 then some ⟨3, 0, replaceAll (trimSuffix s.tail [39]) [39, 39] [39], []⟩ else
  if s.head? = some 35 then (if (wholeF s.tail).2 then some ⟨4, (wholeF s.tail).1, [], []⟩ else none) else
  if s.head? = some 123 then (readSetF s).map (⟨5, 0, [], ·⟩) else
  if s.head? = some 64 then (readDayF s.tail).map (⟨6, ·, [], []⟩) else
  if s = w1T then some ⟨1, 1, [], []⟩ else if s = w2T then some ⟨1, 2, [], []⟩ else if s = w3T then some ⟨1, 3, [], []⟩ else
  (readNumF s).map (⟨2, ·, [], []⟩)

/-- the number that Atoi answers -/
def atoiN (l : List UInt8) : Int := match atoiAll l with
  | .ok v => v
  | .range => atoiSat l
  | _ => 0
def readDecF (s : List UInt8) : Int :=
  let c := cut (trimPrefix s [45]) [46]
  if 4 < c.2.1.length ∨ 12 < c.1.length then 0 else
    if hasPrefix s [45] then -(atoiN c.1 * 10000 + atoiN (c.2.1 ++ zeros (4 - c.2.1.length))) else atoiN c.1 * 10000 + atoiN (c.2.1 ++ zeros (4 - c.2.1.length))
def codesC (l : List (List UInt8)) : List Int := (l.filter (· ≠ [])).map fun p => atoiN (trimPrefix p [35])
/-- the reference's candidate -/
def candF (s : List UInt8) : Q :=
  if s = w1T then ⟨1, 1, [], []⟩ else if s = w2T then ⟨1, 2, [], []⟩ else if s = w3T then ⟨1, 3, [], []⟩ else
  if s = [45] then ⟨0, 0, [], []⟩ else if s = trueT then ⟨7, 1, [], []⟩ else if s = falseT then ⟨7, 0, [], []⟩ else
  if 1 < s.length ∧ s.head? = some 39 then ⟨3, 0, replaceAll ((s.take (s.length - 1)).drop 1) [39, 39] [39], []⟩ else
  if s.head? = some 35 then ⟨4, atoiN s.tail, [], []⟩ else
  if s.head? = some 123 then ⟨5, 0, [], codesC (split (trimS s [123, 125]) [44])⟩ else
  if s.length = 11 ∧ s.head? = some 64 then
    ⟨dateK (atoiN ((s.take 5).drop 1)) (atoiN ((s.take 8).drop 6)) (atoiN (s.drop 9)), dateN (atoiN ((s.take 5).drop 1)) (atoiN ((s.take 8).drop 6)) (atoiN (s.drop 9)), [], []⟩ else
  ⟨2, readDecF s, [], []⟩

/-- a sound value -/
inductive Snd : Int → Int → List UInt8 → List Int → Prop
  | none_ : Snd 0 0 [] []
  | word {n : Int} (h1 : 1 ≤ n) (h2 : n ≤ 3) : Snd 1 n [] []
  | num {n : Int} (h1 : -999999999999999 ≤ n) (h2 : n ≤ 999999999999999) : Snd 2 n [] []
  | text (s : List UInt8) : Snd 3 0 s []
  | code {n : Int} (h1 : 1 ≤ n) (h2 : n ≤ 999) : Snd 4 n [] []
  | set {l : List Int} (h : ∀ c ∈ l, 1 ≤ c ∧ c ≤ 999) : Snd 5 0 [] l
  | day {n : Int} (h1 : -25567 ≤ n) (h2 : n ≤ 84005) : Snd 6 n [] []
  | bool {n : Int} (h1 : 0 ≤ n) (h2 : n ≤ 1) : Snd 7 n [] []

/-! digits -/
theorem itoa_nat (n : Nat) : itoa (n : Int) = decDigits n := by unfold itoa; rw [if_neg (by omega)]; simp
theorem digB_of {l : List UInt8} (h : ∀ b ∈ l, isDig b) : l.all digB = true := by
  rw [List.all_eq_true]
  intro b hb
  have := h b hb
  unfold isDig at this
  simp [digB, this.1, this.2]
theorem whole_dig {l : List UInt8} (h : ∀ b ∈ l, isDig b) (h0 : l ≠ []) (hl : l.length ≤ 15) : wholeF l = (digVal l, true) := by
  unfold wholeF
  rw [if_neg (by simp [h0]; omega), if_pos (digB_of h)]
theorem dec_ne (n : Nat) : decDigits n ≠ [] := fun h => by have := dec_pos n; rw [h] at this; simp at this
theorem whole_dec {n : Nat} (h : (decDigits n).length ≤ 15) : wholeF (decDigits n) = (n, true) := by rw [whole_dig (dig_dec n) (dec_ne n) h, digVal_dec]
theorem pad_dig (w n : Nat) : ∀ b ∈ padT w n, isDig b := by
  intro b hb
  unfold padT at hb
  rw [itoa_nat] at hb
  rcases List.mem_append.1 hb with h | h
  · exact dig_zeros _ b h
  · exact dig_dec n b h
theorem pad_ne (w n : Nat) : padT w n ≠ [] := by unfold padT; rw [itoa_nat]; simp [dec_ne]
theorem pad_val (w n : Nat) : digVal (padT w n) = n := by unfold padT; rw [itoa_nat, digVal_zeros, digVal_dec]
theorem pad_len {w n : Nat} (h : (decDigits n).length ≤ w) : (padT w n).length = w := by unfold padT; rw [itoa_nat]; simp [zeros]; omega
theorem whole_pad {w n : Nat} (h : (decDigits n).length ≤ w) (hw : w ≤ 15) : wholeF (padT w n) = (n, true) := by
  rw [whole_dig (pad_dig w n) (pad_ne w n) (by rw [pad_len h]; exact hw), pad_val]
theorem dig_ne {l : List UInt8} (h : ∀ b ∈ l, isDig b) {c : UInt8} (hc : ¬ isDig c) : c ∉ l := fun hm => hc (h c hm)
theorem nd45 : ¬ isDig 45 := by unfold isDig; decide
theorem nd46 : ¬ isDig 46 := by unfold isDig; decide
theorem nd44 : ¬ isDig 44 := by unfold isDig; decide

/-! cut and split at one byte -/
theorem index_byte_none {c : UInt8} : ∀ {l : List UInt8}, c ∉ l → index l [c] = -1
  | [], _ => rfl
  | b :: r, h => by
    rw [index_cons, index_byte_none (fun hm => h (List.mem_cons_of_mem _ hm)), if_neg]
    · rfl
    · simp [List.isPrefixOf]
      exact fun e => h (by rw [e]; exact List.mem_cons_self ..)
theorem index_byte_at {c : UInt8} : ∀ {a : List UInt8} (b : List UInt8), c ∉ a → index (a ++ c :: b) [c] = a.length
  | [], b, _ => by rw [List.nil_append, index_cons, if_pos (by simp [List.isPrefixOf])]; rfl
  | x :: r, b, h => by
    rw [List.cons_append, index_cons, index_byte_at b (fun hm => h (List.mem_cons_of_mem _ hm)), if_neg, if_neg (by omega)]
    · simp
    · simp [List.isPrefixOf]
      exact fun e => h (by rw [e]; exact List.mem_cons_self ..)
theorem cut_none {c : UInt8} {l : List UInt8} (h : c ∉ l) : cut l [c] = (l, [], false) := by unfold cut; rw [index_byte_none h, if_neg (by decide)]
theorem cut_at {c : UInt8} {a : List UInt8} (b : List UInt8) (h : c ∉ a) : cut (a ++ c :: b) [c] = (a, b, true) := by
  unfold cut
  rw [index_byte_at b h, if_pos (by omega)]
  simp [List.drop_append]
theorem splitK_miss (sep : List UInt8) (save k : Nat) (s : List UInt8) (h : index s sep = -1) : splitK sep save k s = [s] := by
  cases k with
  | zero => rfl
  | succ k => unfold splitK; simp [h]
theorem split_one {c : UInt8} {l : List UInt8} (h : c ∉ l) : split l [c] = [l] := splitK_miss _ _ _ _ (index_byte_none h)
theorem split_at {c : UInt8} {a : List UInt8} (b : List UInt8) (h : c ∉ a) : split (a ++ c :: b) [c] = a :: split b [c] := by
  have hi := index_byte_at b h
  have hm : (index (a ++ c :: b) [c] == -1) = false := by rw [hi, beq_eq_false_iff_ne]; omega
  unfold split
  rw [count_hit (by simp) hi, Nat.add_comm, splitK]
  simp only [hm, Bool.false_eq_true, if_false]
  rw [hi]
  simp [List.drop_append, List.drop_eq_nil_of_le]
theorem split_join {c : UInt8} : ∀ {ps : List (List UInt8)}, ps ≠ [] → (∀ p ∈ ps, c ∉ p) → split (join ps [c]) [c] = ps
  | [], h, _ => absurd rfl h
  | [p], _, h => by rw [join_one]; exact split_one (h p (List.mem_cons_self ..))
  | p :: q :: r, _, h => by
    have e : join (p :: q :: r) [c] = p ++ c :: join (q :: r) [c] := by
      rw [join_cons, join_cons]; simp [joinTail]
    rw [e, split_at _ (h p (List.mem_cons_self ..)), split_join (by simp) (fun x hx => h x (List.mem_cons_of_mem _ hx))]
end Go.Proofs.YtcmccjcelchlhaaGreatDoor.Vtx
namespace Go.Proofs.YtcmccjcelchlhaaGreatDoor
open Vtx

/-- the row of the table in which an expression stands -/
def rowN (e : Ex) : Int :=
  if e.k = 1 ∧ e.v.k = 2 ∧ e.v.n < 0 then 7 else if e.k ≠ 4 then 8 else if e.op = 3 then 1 else if e.op = 2 then 2 else if e.op = 1 then 3 else
  if 4 ≤ e.op ∧ e.op ≤ 11 then 4 else if e.op = 15 ∨ e.op = 16 then 5 else if e.op = 17 ∨ e.op = 18 ∨ e.op = 19 then 6 else if e.op = 20 then 7 else 8
/-- the sign or word of an operation between two parts -/
def infixT (op : Int) : List UInt8 :=
  if op = 4 then [61] else if op = 5 then [60, 62] else if op = 6 then [60] else if op = 7 then [60, 61] else if op = 8 then [62] else if op = 9 then [62, 61] else
  if op = 10 then [105, 110] else if op = 11 then [104, 97, 115] else if op = 15 then [43] else if op = 16 then [45] else if op = 17 then [42] else if op = 18 then [47] else
  if op = 19 then [109, 111, 100] else []
def funcsL : List (Int × List UInt8) := [(12, [97, 110, 115, 119, 101, 114, 101, 100]), (13, [97, 115, 107, 101, 100]), (14, [114, 101, 97, 115, 111, 110]), (21, [97, 98, 115]), (22, [102, 108, 111, 111, 114]),
  (23, [114, 111, 117, 110, 100]), (24, [109, 105, 110]), (25, [109, 97, 120]), (26, [105, 102]), (27, [101, 108, 115, 101]), (28, [115, 105, 122, 101]),
  (29, [99, 111, 100, 101]), (30, [108, 111, 119, 101, 114]), (31, [106, 111, 105, 110]), (32, [98, 101, 103, 105, 110, 115]), (33, [104, 111, 108, 100, 115]),
  (34, [121, 101, 97, 114]), (35, [109, 111, 110, 116, 104]), (36, [100, 97, 121]), (37, [100, 97, 121, 115]), (38, [97, 103, 101]), (39, [108, 97, 116, 101, 114])]
def funcT (op : Int) : List UInt8 := match funcsL.find? (fun p => decide (p.1 = op)) with
  | some p => p.2
  | none => []
def oversL : List (List UInt8) := [[], [115, 117, 109], [99, 111, 117, 110, 116], [97, 110, 121], [97, 108, 108], [108, 101, 97, 115, 116], [109, 111, 115, 116]]
def overT' (op : Int) : List UInt8 := oversL.getD op.toNat []
def headNeg (l : List Ex) : Bool := match l with
  | a :: _ => decide (a.k = 1) && (decide (a.v.k = 2) && decide (0 ≤ a.v.n))
  | [] => false
/-- the text of a part where a row, or a tighter one, can stand -/
def parT (b : Bool) (t : List UInt8) : List UInt8 := if b then 40 :: (t ++ [41]) else t
mutual
noncomputable def Ex.text : Ex → List UInt8
  | .mk k op nm v ar =>
    if k = 1 then showT v.k v.n v.s.data.toList v.l else if k = 2 then nm.data.toList else if k = 3 then [114, 111, 119, 40] ++ nm.data.toList ++ [41] else
    if k = 5 then overT' op ++ [40] ++ nm.data.toList ++ [58, 32] ++ (insL 0 ar).getD 0 [] ++ [41] else
    if op = 3 then Lib.join (insL 2 ar) [32, 111, 114, 32] else if op = 2 then Lib.join (insL 3 ar) [32, 97, 110, 100, 32] else
    if op = 1 then [110, 111, 116, 32] ++ (insL 3 ar).getD 0 [] else
    if 4 ≤ op ∧ op ≤ 11 then (insL 5 ar).getD 0 [] ++ [32] ++ infixT op ++ [32] ++ (insL 5 ar).getD 1 [] else
    if op = 15 ∨ op = 16 then (insL 5 ar).getD 0 [] ++ [32] ++ infixT op ++ [32] ++ (insL 6 ar).getD 1 [] else
    if op = 17 ∨ op = 18 ∨ op = 19 then (insL 6 ar).getD 0 [] ++ [32] ++ infixT op ++ [32] ++ (insL 7 ar).getD 1 [] else
    if op = 20 then (if headNeg ar = true then [45, 40] ++ (insL 0 ar).getD 0 [] ++ [41] else [45] ++ (insL 7 ar).getD 0 []) else
    funcT op ++ [40] ++ Lib.join (insL 1 ar) [44, 32] ++ [41]
noncomputable def insL (least : Int) : List Ex → List (List UInt8)
  | [] => []
  | a :: r => parT (decide (rowN a < least)) a.text :: insL least r
end
theorem text_eq (e : Ex) : e.text =
    if e.k = 1 then showT e.v.k e.v.n e.v.s.data.toList e.v.l else if e.k = 2 then e.nm.data.toList else if e.k = 3 then [114, 111, 119, 40] ++ e.nm.data.toList ++ [41] else
    if e.k = 5 then overT' e.op ++ [40] ++ e.nm.data.toList ++ [58, 32] ++ (insL 0 e.ar).getD 0 [] ++ [41] else
    if e.op = 3 then Lib.join (insL 2 e.ar) [32, 111, 114, 32] else if e.op = 2 then Lib.join (insL 3 e.ar) [32, 97, 110, 100, 32] else
    if e.op = 1 then [110, 111, 116, 32] ++ (insL 3 e.ar).getD 0 [] else
    if 4 ≤ e.op ∧ e.op ≤ 11 then (insL 5 e.ar).getD 0 [] ++ [32] ++ infixT e.op ++ [32] ++ (insL 5 e.ar).getD 1 [] else
    if e.op = 15 ∨ e.op = 16 then (insL 5 e.ar).getD 0 [] ++ [32] ++ infixT e.op ++ [32] ++ (insL 6 e.ar).getD 1 [] else
    if e.op = 17 ∨ e.op = 18 ∨ e.op = 19 then (insL 6 e.ar).getD 0 [] ++ [32] ++ infixT e.op ++ [32] ++ (insL 7 e.ar).getD 1 [] else
    if e.op = 20 then (if headNeg e.ar = true then [45, 40] ++ (insL 0 e.ar).getD 0 [] ++ [41] else [45] ++ (insL 7 e.ar).getD 0 []) else
    funcT e.op ++ [40] ++ Lib.join (insL 1 e.ar) [44, 32] ++ [41] := by
  cases e; rw [Ex.text]; rfl
theorem insL_map (least : Int) : ∀ ar : List Ex, insL least ar = ar.map (fun a => parT (decide (rowN a < least)) a.text)
  | [] => by simp [insL]
  | a :: r => by rw [insL, insL_map least r]; rfl
theorem row_bd (e : Ex) : 1 ≤ rowN e ∧ rowN e ≤ 8 := by
  unfold rowN
  repeat' split
  all_goals omega
theorem ins0 (ar : List Ex) : insL 0 ar = ar.map Ex.text := by
  rw [insL_map]
  refine List.map_congr_left fun a _ => ?_
  have := row_bd a
  unfold parT
  rw [decide_eq_false (by omega)]; rfl
/-! how long a text may be -/
theorem joinTail_len (sep : List UInt8) : ∀ r : List (List UInt8), (Lib.joinTail sep r).length = (r.map List.length).sum + sep.length * r.length
  | [] => by simp [Lib.joinTail]
  | a :: r => by
    have ih := joinTail_len sep r
    unfold Lib.joinTail at *
    simp only [List.map_cons, List.flatten_cons, List.length_append, List.sum_cons, List.length_cons, Nat.mul_succ] at *
    omega
theorem join_len (l : List (List UInt8)) (sep : List UInt8) : (Lib.join l sep).length ≤ (l.map List.length).sum + sep.length * l.length := by
  cases l with
  | nil => rw [Lib.join_nil]; simp
  | cons a r =>
    rw [Lib.join_cons, List.length_append, joinTail_len]
    simp only [List.map_cons, List.sum_cons, List.length_cons, Nat.mul_succ]
    omega
end Go.Proofs.YtcmccjcelchlhaaGreatDoor
namespace Go.Proofs.YtcmccjcelchlhaaGreatDoor
open Go.RowKit

/-- the eight cells of an expression -/
def exCells (e : Ex) (A : Option Addr) (c : Nat) (A' : Option Addr) (c' : Nat) : List Value :=
  [.int .i64 e.k, .int .i64 e.op, .string e.nm, .int .i64 e.v.k, .int .i64 e.v.n, .string e.v.s, .slice A e.v.l.length c, .slice A' e.ar.length c']
/-- an expression lies there, with all its parts -/
inductive ExAt (w : World) (B : Nat) : Ex → List Value → Prop
  | mk {e : Ex} {A : Option Addr} {c : Nat} {A' : Option Addr} {c' : Nat} {cs : List Value} (hn : e.nm.size ≤ maxLen) (hs : e.v.s.size ≤ maxLen) (hl : e.v.l.length ≤ maxLen) (ha : e.ar.length ≤ maxLen)
      (hx : Reads w B 1 A e.v.l.length (numV .i64 e.v.l)) (hr : Reads w B 8 A' e.ar.length cs) (hi : ∀ i (h : i < e.ar.length), ExAt w B e.ar[i] ((cs.drop (i * 8)).take 8)) : ExAt w B e (exCells e A c A' c')
theorem ExAt.keep {w w' : World} {B : Nat} {e : Ex} {cs : List Value} (h : ExAt w B e cs) (hb : Below B w w') : ExAt w' B e cs := by
  induction h with
  | mk hn hs hl ha hx hr hi ih => exact .mk hn hs hl ha (hx.below hb) (hr.below hb) ih
theorem ExAt.up {w : World} {B B' : Nat} {e : Ex} {cs : List Value} (h : ExAt w B e cs) (hB : B ≤ B') : ExAt w B' e cs := by
  induction h with
  | mk hn hs hl ha hx hr hi ih => exact .mk hn hs hl ha (hx.more hB) (hr.more hB) ih
/-- the argument at a place -/
theorem ExAt.arg {w : World} {B : Nat} {e : Ex} {A' : Option Addr} {cs : List Value} (hr : Reads w B 8 A' e.ar.length cs) (hi : ∀ i (h : i < e.ar.length), ExAt w B e.ar[i] ((cs.drop (i * 8)).take 8)) {i : Nat} (h : i < e.ar.length) :
    ∃ ad ci, A' = some ad ∧ ad.block < B ∧ ExAt w B e.ar[i] ci ∧ ∀ j u, ci[j]? = some u → w.cell? ((ad.add (i * 8)).add j) = some u := by
  obtain ⟨ad, rfl, hb, hc⟩ := hr.2 (by omega)
  refine ⟨ad, _, rfl, hb, hi i h, fun j u hu => ?_⟩
  rw [add_of_add]
  refine hc _ u ?_
  rw [List.getElem?_take] at hu
  split at hu
  · rw [List.getElem?_drop] at hu; exact hu
  · cases hu
theorem partsL_snoc (a : Ex) : ∀ l : List Ex, partsL (l ++ [a]) = partsL l + a.parts
  | [] => by simp [partsL]
  | b :: r => by rw [List.cons_append, partsL, partsL, partsL_snoc a r]; omega
theorem depthL_snoc (a : Ex) : ∀ l : List Ex, depthL (l ++ [a]) = max (depthL l) a.depth
  | [] => by simp [depthL]
  | b :: r => by rw [List.cons_append, depthL, depthL, depthL_snoc a r]; omega
theorem partsL_take (l : List Ex) : ∀ k, partsL (l.take k) ≤ partsL l := by
  induction l with
  | nil => intro k; simp [partsL]
  | cons a r ih =>
    intro k
    cases k with
    | zero => simp [partsL]
    | succ k => rw [List.take_succ_cons, partsL, partsL]; have := ih k; omega
theorem depthL_take (l : List Ex) : ∀ k, depthL (l.take k) ≤ depthL l := by
  induction l with
  | nil => intro k; simp [depthL]
  | cons a r ih =>
    intro k
    cases k with
    | zero => simp [depthL]
    | succ k => rw [List.take_succ_cons, depthL, depthL]; have := ih k; omega
theorem depthL_mem {a : Ex} : ∀ {l : List Ex}, a ∈ l → a.depth ≤ depthL l
  | b :: r, h => by
    rw [depthL]
    rcases List.mem_cons.1 h with e | e
    · rw [e]; omega
    · have := depthL_mem e; omega
theorem depth_le_parts (e : Ex) : e.depth ≤ e.parts := by
  induction e using Ex.ind with
  | h e ih =>
    rw [depth_eq, parts_eq]
    have : ∀ l : List Ex, (∀ a ∈ l, a.depth ≤ a.parts) → depthL l ≤ partsL l := by
      intro l
      induction l with
      | nil => intro _; simp [depthL]
      | cons a r ih =>
        intro h
        have h1 := h a (List.mem_cons_self ..)
        have h2 := ih (fun b hb => h b (List.mem_cons_of_mem _ hb))
        rw [depthL, partsL]
        omega
    have := this e.ar ih
    omega
set_option maxHeartbeats 1000000 in
set_option maxRecDepth 100000 in
theorem countParts_any (e : Ex) : ∀ (B : Nat) (cs : List Value) (w : World), ExAt w B e cs → B ≤ w.heap.size → e.parts ≤ 1000000000000 →
    Calls Tryz.prog 29 #[.agg cs.toArray] w fun en w' => en = .returned (.tuple #[.int .i64 (e.parts : Nat), .int .i64 (e.depth : Nat)]) ∧ Below w.heap.size w w' := by
  induction e using Ex.ind with
  | h e ih =>
    rintro B cs w ⟨hn, hs, hl, ha, hx, hr, hi⟩ hB hp
    rename_i A c A' c' cs
    unfold maxLen at ha
    have HR := Lib.hid (And.intro hr hi)
    have HI := Lib.hid ih
    have hdp := depth_le_parts e
    have HQ := Lib.hid (And.intro (parts_eq e) (depth_eq e))
    clear hr hi ih hx
    show Calls Tryz.prog 29 #[.agg #[.int .i64 e.k, .int .i64 e.op, .string e.nm, .int .i64 e.v.k, .int .i64 e.v.n, .string e.v.s, .slice A e.v.l.length c, .slice A' e.ar.length c']] w _
    go_enter Tryz.func29, Tryz.ntmps29
    go_wp2
    go_loopw [4, 5, 13] (fun p d i wr => ∃ k : Nat, k ≤ e.ar.length ∧ i = .int .i64 k ∧ p = .int .i64 ((partsL (e.ar.take k) + 1 : Nat) : Int) ∧ d = .int .i64 ((depthL (e.ar.take k) : Nat) : Int) ∧ Below w.heap.size w wr) (fun _ _ i _ => e.ar.length - (intOf i).toNat)
    case atStart => exact ⟨0, Nat.zero_le _, rfl, rfl, rfl, (Below.refl _ _).alloc (Nat.le_refl _) _⟩
    case round =>
      obtain ⟨k, hk, rfl, rfl, rfl, hbr⟩ := hrel
      have hsr := hbr.size
      have hbr0 := hbr.mono hB
      obtain ⟨P, hP⟩ : ∃ P, partsL (e.ar.take k) = P := ⟨_, rfl⟩
      obtain ⟨D, hD⟩ : ∃ D, depthL (e.ar.take k) = D := ⟨_, rfl⟩
      have hPb := partsL_take e.ar k
      have hDb := depthL_take e.ar k
      rw [hP] at hPb
      rw [hD] at hDb
      rw [hP, hD]
      by_cases hlt : k < e.ar.length
      · obtain ⟨ad, ci, rfl, hb, hci, hcell⟩ := ExAt.arg (HR.out.1.below hbr0) (fun i h => (HR.out.2 i h).keep hbr0) hlt
        obtain ⟨a, hea⟩ : ∃ a, e.ar[k] = a := ⟨_, rfl⟩
        have ham : a ∈ e.ar := by rw [← hea]; exact List.getElem_mem hlt
        have hap := partsL_mem ham
        have had := depthL_mem ham
        have hpe := parts_eq e
        have HS := Lib.hid (show partsL (e.ar.take (k + 1)) = P + a.parts ∧ depthL (e.ar.take (k + 1)) = max D a.depth by
          rw [List.take_succ_eq_append_getElem hlt, partsL_snoc, depthL_snoc, hea, hP, hD]; exact ⟨rfl, rfl⟩)
        have hPS : P + a.parts ≤ 1000000000000 := by
          have := partsL_take e.ar (k + 1)
          rw [HS.out.1] at this
          omega
        have hap2 : a.parts ≤ 1000000000000 := by omega
        have had2 : a.depth ≤ 1000000000000 := by have := depth_le_parts a; omega
        have hD2 : D ≤ 1000000000000 := by have := depth_eq e; omega
        have HLT := Lib.hid hlt
        have HI1 := Lib.hid (fun w' h1 h2 => HI.out a ham B ci w' h1 h2 hap2)
        rw [hea] at hci
        have HCI := Lib.hid hci
        obtain ⟨hn1, hs1, hl1, ha1, hx1, hr1, hi1⟩ := hci
        rename_i A1 c1 A1' c1' cs1
        have fc0 : wr.cell? (ad.add (k * 8)) = some (.int .i64 a.k) := hcell 0 _ rfl
        have fc1 : wr.cell? ⟨(ad.add (k * 8)).block, (ad.add (k * 8)).off + 1, none⟩ = some (.int .i64 a.op) := hcell 1 _ rfl
        have fc2 : wr.cell? ⟨(ad.add (k * 8)).block, (ad.add (k * 8)).off + 2, none⟩ = some (.string a.nm) := hcell 2 _ rfl
        have fc3 : wr.cell? ⟨(ad.add (k * 8)).block, (ad.add (k * 8)).off + 3, none⟩ = some (.int .i64 a.v.k) := hcell 3 _ rfl
        have fc4 : wr.cell? ⟨(ad.add (k * 8)).block, (ad.add (k * 8)).off + 4, none⟩ = some (.int .i64 a.v.n) := hcell 4 _ rfl
        have fc5 : wr.cell? ⟨(ad.add (k * 8)).block, (ad.add (k * 8)).off + 5, none⟩ = some (.string a.v.s) := hcell 5 _ rfl
        have fc6 : wr.cell? ⟨(ad.add (k * 8)).block, (ad.add (k * 8)).off + 6, none⟩ = some (.slice A1 a.v.l.length c1) := hcell 6 _ rfl
        have fc7 : wr.cell? ⟨(ad.add (k * 8)).block, (ad.add (k * 8)).off + 7, none⟩ = some (.slice A1' a.ar.length c1') := hcell 7 _ rfl
        clear hx1 hr1 hi1 hcell hP hD hea ham hap had hpe hPb hDb hdp
        go_wp2_with fail
        obtain ⟨W, hW⟩ : ∃ W, W = wr.alloc (.cells #[.int .i64 a.k, .int .i64 a.op, .string a.nm, .int .i64 a.v.k, .int .i64 a.v.n, .string a.v.s, .slice A1 a.v.l.length c1, .slice A1' a.ar.length c1'] 27 (0, 0)) := ⟨_, rfl⟩
        have hbW : Below wr.heap.size wr W := hW ▸ (Below.refl _ wr).alloc (Nat.le_refl _) _
        rw [← hW]
        have hb2 := hbr.trans (hbW.mono hsr)
        have hbB := hbW.mono (Nat.le_trans hB hsr)
        clear hW fc0 fc1 fc2 fc3 fc4 fc5 fc6 fc7
        refine (HI1.out W (HCI.out.keep hbB) (Nat.le_trans hB hb2.size)).mono ?_
        rintro en w3 ⟨rfl, hb3⟩
        have hbw := hb2.trans (hb3.mono hb2.size)
        clear hb3 hbW hbB hb2
        go_wp2
        go_roundw
        case rel => exact ⟨k + 1, HLT.out, by go_num, by rw [HS.out.1]; go_num, by rw [HS.out.2]; go_num, hbw⟩
        case measure =>
          have := HLT.out
          simp [intOf]
          omega
      · have hke : e.ar.take k = e.ar := List.take_of_length_le (by omega)
        have HF := Lib.hid (show e.parts = P + 1 ∧ e.depth = D + 1 by rw [HQ.out.1, HQ.out.2, ← hP, ← hD, hke]; exact ⟨rfl, rfl⟩)
        have hD2 : D ≤ 1000000000000 := by have := depth_eq e; omega
        clear hP hD hke hPb hDb hdp
        go_wp2
        go_ret2
        exact ⟨ret_val (by rw [HF.out.1, HF.out.2]; rfl), hbr⟩
end Go.Proofs.YtcmccjcelchlhaaGreatDoor
