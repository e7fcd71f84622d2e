/- The calendar, in plain mathematics: years, months, the number of a day, the date of a day. No program in sight. · ReplaceAll of quotes and back: the plain mathematics. No program in sight. · The texts of values: what Show writes; what Read's readers make of a text. The plain mathematics: no program in sight. · The text of an expression. The plain mathematics: no program in sight. · PLAIN. The words of a text, and the reading of an expression out of them. No program in sight. · PLAIN. The reading of an expression without fuel. -/
import Derived.WalkKit
import Derived.Lib.Replace
import Derived.Lib.IndexMore
import Derived.Test.YtobanldeicclmaaGreatDoorP3
import Derived.Lib.Split
import Derived.Lib.TrimByte
import Derived.Lib.Strings
import Derived.Lib.Join
import Derived.Lib.Small
import Derived.Lib.AtoiAll
import Derived.Lib.SlTrimSet
import Derived.Test.YtobanldeicclmaaGreatDoorP1
namespace Go.Proofs.YtobanldeicclmaaGreatDoor.Cal
def lp (y : Int) : Bool := (decide (y % 4 = 0) && decide (y % 100 ≠ 0)) || decide (y % 400 = 0)
def dim (y m : Int) : Int := if m = 2 then (if lp y = true then 29 else 28) else if m = 4 ∨ m = 6 ∨ m = 9 ∨ m = 11 then 30 else 31
def yd (y : Int) : Int := if lp y = true then 366 else 365
def base (y : Int) : Int := 365 * (y - 1970) + ((y - 1) / 4 - (y - 1) / 100 + (y - 1) / 400) - 477
def fb (y : Int) : Int := if lp y = true then 29 else 28
/-- the days of a year ahead of month m -/
def cum (y m : Int) : Int :=
  if m ≤ 1 then 0 else if m = 2 then 31 else if m = 3 then 31 + fb y else if m = 4 then 62 + fb y else if m = 5 then 92 + fb y else if m = 6 then 123 + fb y else
  if m = 7 then 153 + fb y else if m = 8 then 184 + fb y else if m = 9 then 215 + fb y else if m = 10 then 245 + fb y else if m = 11 then 276 + fb y else if m = 12 then 306 + fb y else 337 + fb y
def num (y m d : Int) : Int := base y + cum y m + d - 1
theorem lp_cases (y : Int) : (lp y = true ∧ (y % 4 = 0 ∧ y % 100 ≠ 0 ∨ y % 400 = 0)) ∨ (lp y = false ∧ ¬ (y % 4 = 0 ∧ y % 100 ≠ 0 ∨ y % 400 = 0)) := by
  unfold lp
  by_cases a : y % 4 = 0 <;> by_cases b : y % 100 = 0 <;> by_cases c : y % 400 = 0 <;> simp [a, b, c] <;> omega
theorem base_succ (y : Int) : base (y + 1) = base y + yd y := by
  unfold base yd
  rcases lp_cases y with ⟨h, e⟩ | ⟨h, e⟩
  · rw [if_pos h]; omega
  · rw [if_neg (by rw [h]; simp)]; omega
theorem base_1900 : base 1900 = -25567 := by decide
theorem base_2200 : base 2200 = 84006 := by decide
theorem base_mono {a b : Int} (h : a ≤ b) : base a ≤ base b := by unfold base; omega
theorem fb_cases (y : Int) : (fb y = 29 ∧ yd y = 366 ∧ lp y = true) ∨ (fb y = 28 ∧ yd y = 365 ∧ lp y = false) := by
  unfold fb yd
  cases h : lp y <;> simp
theorem cum_succ (y m : Int) (h1 : 1 ≤ m) (h2 : m ≤ 12) : cum y (m + 1) = cum y m + dim y m := by
  have : m = 1 ∨ m = 2 ∨ m = 3 ∨ m = 4 ∨ m = 5 ∨ m = 6 ∨ m = 7 ∨ m = 8 ∨ m = 9 ∨ m = 10 ∨ m = 11 ∨ m = 12 := by omega
  rcases fb_cases y with ⟨hf, -, hl⟩ | ⟨hf, -, hl⟩ <;> rcases this with rfl | rfl | rfl | rfl | rfl | rfl | rfl | rfl | rfl | rfl | rfl | rfl <;> simp [cum, dim, hf, hl]
theorem cum_one (y : Int) : cum y 1 = 0 := by simp [cum]
theorem cum_13 (y : Int) : cum y 13 = yd y := by
  rcases fb_cases y with ⟨hf, hy, -⟩ | ⟨hf, hy, -⟩ <;> simp [cum, hf, hy]
theorem dim_bd (y m : Int) : 28 ≤ dim y m ∧ dim y m ≤ 31 := by unfold dim; repeat' split <;> omega
theorem cum_bd (y m : Int) : 0 ≤ cum y m ∧ cum y m ≤ 366 := by
  rcases fb_cases y with ⟨hf, -, -⟩ | ⟨hf, -, -⟩ <;> unfold cum <;> rw [hf] <;> repeat' split <;> omega
theorem cum_mono (y : Int) {a b : Int} (h : a ≤ b) (h1 : 1 ≤ a) (h2 : b ≤ 13) : cum y a ≤ cum y b := by
  obtain ⟨k, hk⟩ : ∃ k : Nat, b = a + k := ⟨(b - a).toNat, by omega⟩
  subst hk
  clear h
  induction k with
  | zero => simp
  | succ k ih =>
    have e := cum_succ y (a + k) (by omega) (by omega)
    have d := dim_bd y (a + k)
    have := ih (by omega)
    rw [show a + ((k + 1 : Nat) : Int) = a + k + 1 from by omega]
    omega
theorem base_bd (y : Int) (h1 : 1600 ≤ y) (h2 : y ≤ 2400) : -136000 ≤ base y ∧ base y ≤ 158000 := by unfold base; omega
structure IsCivil (n y m d : Int) : Prop where
  m1 : 1 ≤ m
  m2 : m ≤ 12
  d1 : 1 ≤ d
  d2 : d ≤ dim y m
  eq : num y m d = n
theorem IsCivil.year {n y m d : Int} (h : IsCivil n y m d) : base y ≤ n ∧ n < base (y + 1) := by
  have hc := cum_bd y m
  have hs := cum_succ y m h.m1 h.m2
  have hm := cum_mono y (show m + 1 ≤ 13 by have := h.m2; omega) (by have := h.m1; omega) (by omega)
  have h13 := cum_13 y
  have hb := base_succ y
  have := h.eq
  have := h.d1
  have := h.d2
  unfold num at *
  omega
theorem IsCivil.unique {n y m d y' m' d' : Int} (h : IsCivil n y m d) (h' : IsCivil n y' m' d') : y = y' ∧ m = m' ∧ d = d' := by
  have hy : y = y' := by
    have a := h.year
    have b := h'.year
    rcases Int.lt_trichotomy y y' with l | l | l
    · have := base_mono (show y + 1 ≤ y' by omega); omega
    · exact l
    · have := base_mono (show y' + 1 ≤ y by omega); omega
  subst hy
  have hm : m = m' := by
    have a := cum_succ y m h.m1 h.m2
    have b := cum_succ y m' h'.m1 h'.m2
    have := h.eq
    have := h.d1
    have := h.d2
    have := h'.eq
    have := h'.d1
    have := h'.d2
    unfold num at *
    rcases Int.lt_trichotomy m m' with l | l | l
    · have := cum_mono y (show m + 1 ≤ m' by omega) (by have := h.m1; omega) (by have := h'.m2; omega); omega
    · exact l
    · have := cum_mono y (show m' + 1 ≤ m by omega) (by have := h'.m1; omega) (by have := h.m2; omega); omega
  subst hm
  refine ⟨rfl, rfl, ?_⟩
  have := h.eq
  have := h'.eq
  unfold num at *
  omega
open Classical in
noncomputable def civ (n : Int) : Int × Int × Int := if h : ∃ p : Int × Int × Int, IsCivil n p.1 p.2.1 p.2.2 then Classical.choose h else (0, 0, 0)
theorem civ_eq {n y m d : Int} (h : IsCivil n y m d) : civ n = (y, m, d) := by
  have hex : ∃ p : Int × Int × Int, IsCivil n p.1 p.2.1 p.2.2 := ⟨(y, m, d), h⟩
  unfold civ
  rw [dif_pos hex]
  obtain ⟨e1, e2, e3⟩ := (Classical.choose_spec hex).unique h
  exact Prod.ext e1 (Prod.ext e2 e3)
noncomputable def cy (n : Int) : Int := (civ n).1
noncomputable def cm (n : Int) : Int := (civ n).2.1
noncomputable def cd (n : Int) : Int := (civ n).2.2
theorem IsCivil.cy {n y m d : Int} (h : IsCivil n y m d) : cy n = y := by unfold Cal.cy; rw [civ_eq h]
theorem IsCivil.cm {n y m d : Int} (h : IsCivil n y m d) : cm n = m := by unfold Cal.cm; rw [civ_eq h]
theorem IsCivil.cd {n y m d : Int} (h : IsCivil n y m d) : cd n = d := by unfold Cal.cd; rw [civ_eq h]
/-- the guess of the program for a year -/
def guess (n : Int) : Int := if n < 0 then 1970 + n.tdiv 365 - 1 else 1970 + n.tdiv 366
theorem guess_ok {n : Int} (h1 : -25567 ≤ n) (h2 : n ≤ 84005) : base (guess n) ≤ n ∧ 1899 ≤ guess n ∧ guess n ≤ 2199 := by
  unfold guess
  split
  · rename_i hn
    have e : n.tdiv 365 = -((-n) / 365) := by
      obtain ⟨k, rfl⟩ : ∃ k : Nat, n = -(k : Int) := ⟨n.natAbs, by omega⟩
      rw [Int.neg_tdiv, Int.tdiv_eq_ediv_of_nonneg (by omega)]
      simp
    rw [e]
    unfold base
    omega
  · rename_i hn
    rw [Int.tdiv_eq_ediv_of_nonneg (by omega)]
    unfold base
    omega
theorem tdiv_neg_eq {n : Int} (k : Int) (hn : n < 0) : n.tdiv k = -((-n) / k) := by
  obtain ⟨j, rfl⟩ : ∃ j : Nat, n = -(j : Int) := ⟨n.natAbs, by omega⟩
  rw [Int.neg_tdiv, Int.tdiv_eq_ediv_of_nonneg (by omega)]
  simp
theorem tdiv_bd {n : Int} (h1 : -25567 ≤ n) (h2 : n ≤ 84005) : -71 ≤ n.tdiv 365 ∧ n.tdiv 365 ≤ 231 ∧ -71 ≤ n.tdiv 366 ∧ n.tdiv 366 ≤ 231 := by
  by_cases hn : n < 0
  · rw [tdiv_neg_eq 365 hn, tdiv_neg_eq 366 hn]
    omega
  · rw [Int.tdiv_eq_ediv_of_nonneg (by omega), Int.tdiv_eq_ediv_of_nonneg (by omega)]
    omega
theorem range_year {n y : Int} (h1 : -25567 ≤ n) (h2 : n ≤ 84005) (h3 : base y ≤ n) (h4 : n < base (y + 1)) : 1900 ≤ y ∧ y ≤ 2199 := by
  have a := base_1900
  have b := base_2200
  constructor
  · by_cases h : 1900 ≤ y
    · exact h
    · have := base_mono (show y + 1 ≤ 1900 by omega); omega
  · by_cases h : y ≤ 2199
    · exact h
    · have := base_mono (show 2200 ≤ y by omega); omega
theorem civil_of {n y m : Int} (h1 : base y + cum y m ≤ n) (h2 : n < base y + cum y m + dim y m) (m1 : 1 ≤ m) (m2 : m ≤ 12) : IsCivil n y m (n - (base y + cum y m) + 1) :=
  ⟨m1, m2, by omega, by omega, by unfold num; omega⟩
/-- the date of a day in the range exists -/
theorem civil_ex {n : Int} (h1 : -25567 ≤ n) (h2 : n ≤ 84005) : ∃ y m d, IsCivil n y m d := by
  have hy : ∀ k : Nat, ∀ y, base y ≤ n → 2200 - y = k → ∃ y, base y ≤ n ∧ n < base (y + 1) := by
    intro k
    induction k with
    | zero => intro y hb hk; exact ⟨y, hb, by have := base_2200; have := base_mono (show 2200 ≤ y + 1 by omega); omega⟩
    | succ k ih =>
      intro y hb hk
      by_cases h : n < base (y + 1)
      · exact ⟨y, hb, h⟩
      · exact ih (y + 1) (by omega) (by omega)
  obtain ⟨y, hb, hl⟩ := hy 300 1900 (by have := base_1900; omega) (by omega)
  have hm : ∀ k : Nat, ∀ m, 1 ≤ m → m ≤ 12 → base y + cum y m ≤ n → 12 - m = k → ∃ m d, IsCivil n y m d := by
    intro k
    induction k with
    | zero =>
      intro m m1 m2 hc hk
      obtain rfl : m = 12 := by omega
      have := cum_succ y 12 (by omega) (by omega)
      have := cum_13 y
      have := base_succ y
      exact ⟨12, _, civil_of hc (by simp only [show (12 : Int) + 1 = 13 from rfl] at *; omega) (by omega) (by omega)⟩
    | succ k ih =>
      intro m m1 m2 hc hk
      by_cases h : n < base y + cum y (m + 1)
      · exact ⟨m, _, civil_of hc (by have := cum_succ y m m1 m2; omega) m1 m2⟩
      · exact ih (m + 1) (by omega) (by omega) (by omega) (by omega)
  obtain ⟨m, d, h⟩ := hm 11 1 (by omega) (by omega) (by rw [cum_one]; omega) (by omega)
  exact ⟨y, m, d, h⟩
theorem civ_spec {n : Int} (h1 : -25567 ≤ n) (h2 : n ≤ 84005) : IsCivil n (cy n) (cm n) (cd n) := by
  obtain ⟨y, m, d, h⟩ := civil_ex h1 h2
  rw [h.cy, h.cm, h.cd]
  exact h
/-- the Day of a date, as a kind and a number; (0, 0): Missing -/
def okDate (y m d : Int) : Bool := decide (1900 ≤ y) && decide (y ≤ 2199) && decide (1 ≤ m) && decide (m ≤ 12) && decide (1 ≤ d) && decide (d ≤ dim y m)
theorem okDate_iff (y m d : Int) : okDate y m d = true ↔ (1900 ≤ y ∧ y ≤ 2199) ∧ (1 ≤ m ∧ m ≤ 12) ∧ 1 ≤ d ∧ d ≤ dim y m := by
  simp only [okDate, Bool.and_eq_true, decide_eq_true_eq]
  omega
theorem num_range {y m d : Int} (m1 : 1 ≤ m) (m2 : m ≤ 12) (d1 : 1 ≤ d) (d2 : d ≤ dim y m) : (-25567 ≤ num y m d ∧ num y m d ≤ 84005) ↔ (1900 ≤ y ∧ y ≤ 2199) := by
  have h : IsCivil (num y m d) y m d := ⟨m1, m2, d1, d2, rfl⟩
  obtain ⟨h3, h4⟩ := h.year
  constructor
  · rintro ⟨h1, h2⟩
    exact range_year h1 h2 h3 h4
  · rintro ⟨h1, h2⟩
    have a := base_1900
    have b := base_2200
    have := base_mono h1
    have := base_mono (show y + 1 ≤ 2200 by omega)
    omega
end Go.Proofs.YtobanldeicclmaaGreatDoor.Cal
namespace Go.Proofs.YtobanldeicclmaaGreatDoor.Vtx
open Go.Lib
/-- what ReplaceAll makes of a text: one byte by a text -/
def subst1 (c : UInt8) (new : List UInt8) (s : List UInt8) : List UInt8 := s.flatMap fun b => if b = c then new else [b]
/-- two quotes by one, from the left -/
def unq : List UInt8 → List UInt8
  | a :: b :: r => if a = 39 ∧ b = 39 then 39 :: unq r else a :: unq (b :: r)
  | l => l
theorem replaceK_miss (old new : List UInt8) (k : Nat) (s : List UInt8) (h : index s old = -1) : replaceK old new k s = s := by
  cases k with
  | zero => rfl
  | succ k => unfold replaceK; rw [if_pos (by simp [h])]
theorem index_cons (b : UInt8) (l sub : List UInt8) : index (b :: l) sub = if sub.isPrefixOf (b :: l) then 0 else if index l sub = -1 then -1 else index l sub + 1 := by
  rw [index]
  simp
/-- one step of counting and replacing at the first byte -/
theorem count_le (s sub : List UInt8) (hs : sub ≠ []) : ∀ f, s.length < f → ∀ g, s.length < g → countFrom sub f s = countFrom sub g s := by
  intro f
  induction f generalizing s with
  | zero => intro h; omega
  | succ f ih =>
    intro h g hg
    cases g with
    | zero => omega
    | succ g =>
      unfold countFrom
      by_cases hi : index s sub = -1
      · simp [hi]
      · have hm : (index s sub == -1) = false := by simpa using hi
        have h0 := index_ge s sub
        have hr := index_room s sub (by omega)
        have hl : 0 < sub.length := List.length_pos_iff.2 hs
        simp only [hm, Bool.false_eq_true, if_false]
        congr 1
        exact ih _ (by simp; omega) g (by simp; omega)
theorem count_hit {s sub : List UInt8} {i : Nat} (hs : sub ≠ []) (h : index s sub = i) : count s sub = 1 + count (s.drop (i + sub.length)) sub := by
  have hr := index_room s sub (by omega)
  have hl : 0 < sub.length := List.length_pos_iff.2 hs
  rw [count, countFrom]
  have hm : (index s sub == -1) = false := by rw [h]; rw [beq_eq_false_iff_ne]; omega
  simp only [hm, Bool.false_eq_true, if_false]
  rw [h, Int.toNat_natCast]
  congr 1
  unfold count
  exact count_le _ _ hs _ (by simp; omega) _ (by omega)
/-- ReplaceAll from the left -/
def repl (old new : List UInt8) : List UInt8 → List UInt8 := fun s => replaceK old new (count s old) s
theorem repl_miss {s old new : List UInt8} (h : index s old = -1) : repl old new s = s := replaceK_miss _ _ _ _ h
theorem repl_hit {s old new : List UInt8} {i : Nat} (hs : old ≠ []) (h : index s old = i) : repl old new s = s.take i ++ new ++ repl old new (s.drop (i + old.length)) := by
  unfold repl
  rw [count_hit hs h, Nat.add_comm, replaceK_hit _ _ _ _ _ h]
theorem replaceAll_repl {s old new : List UInt8} (h : old ≠ new) : replaceAll s old new = repl old new s := by
  unfold replaceAll replace replaceNum repl
  rw [if_neg (by simpa using h), if_pos (by simp)]
theorem repl_nil {old new : List UInt8} (hs : old ≠ []) : repl old new [] = [] := repl_miss (by cases old; exact absurd rfl hs; rfl)
theorem repl_here {old new r : List UInt8} (hs : old ≠ []) : repl old new (old ++ r) = new ++ repl old new r := by
  have h : index (old ++ r) old = (0 : Nat) := by
    refine index_first (Nat.zero_le _) ?_ (fun j hj => absurd hj (by omega))
    simp [occAt]
  rw [repl_hit hs h]
  simp
theorem repl_cons {old new r : List UInt8} {b : UInt8} (hs : old ≠ []) (h : old.isPrefixOf (b :: r) = false) : repl old new (b :: r) = b :: repl old new r := by
  have hi := index_cons b r old
  rw [h] at hi
  simp only [Bool.false_eq_true, if_false] at hi
  by_cases hr : index r old = -1
  · rw [if_pos hr] at hi
    rw [repl_miss hi, repl_miss hr]
  · rw [if_neg hr] at hi
    obtain ⟨i, hix⟩ : ∃ i : Nat, index r old = i := ⟨(index r old).toNat, by have := index_ge r old; omega⟩
    rw [repl_hit hs (i := i + 1) (by rw [hi, hix]; rfl), repl_hit hs hix]
    simp [Nat.add_right_comm]
theorem repl_subst1 (c : UInt8) (new s : List UInt8) : repl [c] new s = subst1 c new s := by
  induction s with
  | nil => exact repl_nil (by simp)
  | cons b r ih =>
    by_cases h : b = c
    · subst h
      have := repl_here (new := new) (r := r) (old := [b]) (by simp)
      simp only [List.singleton_append] at this
      rw [this, ih]; simp [subst1]
    · rw [repl_cons (by simp) (by simp [List.isPrefixOf]; exact fun e => h e.symm), ih]; simp [subst1, h]
theorem repl_unq (s : List UInt8) : repl [39, 39] [39] s = unq s := by
  induction s using unq.induct with
  | case1 a b r h ih =>
    obtain ⟨rfl, rfl⟩ := h
    have := repl_here (new := [39]) (r := r) (old := [39, 39]) (by simp)
    simp only [List.cons_append, List.nil_append] at this
    rw [this, ih, unq, if_pos ⟨rfl, rfl⟩]
  | case2 a b r h ih =>
    rw [repl_cons (by simp), ih, unq, if_neg h]
    simp only [List.isPrefixOf, Bool.and_true]
    rw [Bool.eq_false_iff]
    intro e
    simp at e
    exact h ⟨e.1.symm, e.2.symm⟩
  | case3 l h =>
    rcases l with _ | ⟨a, _ | ⟨b, r⟩⟩
    · rw [repl_nil (by simp)]; rfl
    · rw [repl_cons (by simp) (by simp [List.isPrefixOf]), repl_nil (by simp)]; rfl
    · exact absurd rfl (h a b r)
theorem unq_subst (s : List UInt8) : unq (subst1 39 [39, 39] s) = s := by
  induction s with
  | nil => rfl
  | cons b r ih =>
    by_cases h : b = 39
    · subst h
      have e : subst1 39 [39, 39] (39 :: r) = 39 :: 39 :: subst1 39 [39, 39] r := by simp [subst1]
      rw [e, unq, if_pos ⟨rfl, rfl⟩, ih]
    · have e : subst1 39 [39, 39] (b :: r) = b :: subst1 39 [39, 39] r := by simp [subst1, h]
      rw [e]
      cases hr : subst1 39 [39, 39] r with
      | nil => rw [hr] at ih; rw [← ih]; simp [unq]
      | cons d t => rw [unq, if_neg (by simp [h]), ← hr, ih]
theorem back (s : List UInt8) : replaceAll (replaceAll s [39] [39, 39]) [39, 39] [39] = s := by
  rw [replaceAll_repl (by simp), replaceAll_repl (by simp), repl_subst1, repl_unq, unq_subst]
end Go.Proofs.YtobanldeicclmaaGreatDoor.Vtx
namespace Go.Proofs.YtobanldeicclmaaGreatDoor.Vtx
open Go.Lib Dig
def padT (w : Nat) (n : Int) : List UInt8 := zeros (w - (itoa n).length) ++ itoa n
def fracT (m : Int) : List UInt8 := trimRightB (padT 4 m) 48
def absI (n : Int) : Int := if n < 0 then -n else n
def numT (n : Int) : List UInt8 := (if n < 0 then [45] else []) ++ itoa (absI n / 10000) ++ (if fracT (absI n % 10000) = [] then [] else 46 :: fracT (absI n % 10000))
def codeT (c : Int) : List UInt8 := 35 :: itoa c
def setT (l : List Int) : List UInt8 := 123 :: join (l.map codeT) [44] ++ [125]
noncomputable def dayT (n : Int) : List UInt8 := 64 :: padT 4 (Cal.cy n) ++ [45] ++ padT 2 (Cal.cm n) ++ [45] ++ padT 2 (Cal.cd n)
def w1T : List UInt8 := [100, 111, 110, 116, 107, 110, 111, 119]
def w2T : List UInt8 := [114, 101, 102, 117, 115, 101, 100]
def w3T : List UInt8 := [110, 111, 97, 110, 115, 119, 101, 114]
def trueT : List UInt8 := [116, 114, 117, 101]
def falseT : List UInt8 := [102, 97, 108, 115, 101]
def wordT (n : Int) : List UInt8 := if n = 1 then w1T else if n = 2 then w2T else w3T
def textT (s : List UInt8) : List UInt8 := 39 :: replaceAll s [39] [39, 39] ++ [39]
/-- the text of a value -/
noncomputable def showT (k n : Int) (s : List UInt8) (l : List Int) : List UInt8 :=
  if k = 1 then wordT n else if k = 2 then numT n else if k = 3 then textT s else if k = 4 then codeT n else if k = 5 then setT l else if k = 6 then dayT n else
  if k = 7 then (if n = 1 then trueT else falseT) else [45]
def digB (b : UInt8) : Bool := decide (48 ≤ b.toNat) && decide (b.toNat ≤ 57)
def wholeF (l : List UInt8) : Nat × Bool := if l = [] ∨ 15 < l.length then (0, false) else if l.all digB then (digVal l, true) else (0, false)
def padR (l : List UInt8) (k : Nat) : List UInt8 := l ++ zeros (k - l.length)
/-- readNumber: the number, if there is one -/
def readNumF (s : List UInt8) : Option Int :=
  let d := trimPrefix s [45]
  let part := padR (cut d [46]).2.1 4
  let a := wholeF (cut d [46]).1
  let b := wholeF part
  if a.2 = true ∧ b.2 = true ∧ part.length ≤ 4 ∧ a.1 ≤ 99999999999 then
    some (if d.length < s.length then -((a.1 * 10000 + b.1 : Nat) : Int) else ((a.1 * 10000 + b.1 : Nat) : Int)) else none
/-- the numbers of a set's parts, if all are numbers -/
def codesF : List (List UInt8) → Option (List Int)
  | [] => some []
  | p :: r => if (wholeF (trimPrefix p [35])).2 then (codesF r).map (((wholeF (trimPrefix p [35])).1 : Int) :: ·) else none
def innerF (s : List UInt8) : List UInt8 := trimSuffix (trimPrefix s [123]) [125]
def readSetF (s : List UInt8) : Option (List Int) := if innerF s = [] then some [] else codesF (split (innerF s) [44])
def readDayF (r : List UInt8) : Option Int :=
  match split r [45] with
  | [a, b, c] => if (wholeF a).2 && (wholeF b).2 && (wholeF c).2 && Cal.okDate (wholeF a).1 (wholeF b).1 (wholeF c).1 then some (Cal.num (wholeF a).1 (wholeF b).1 (wholeF c).1) else none
  | _ => none
structure Q where
  k : Int
  n : Int
  s : List UInt8
  l : List Int
deriving DecidableEq
/-- the program's guess -/
def guessF (s : List UInt8) : Option Q :=
  if s = [] then none else if s = [45] then some ⟨0, 0, [], []⟩ else if s = trueT then some ⟨7, 1, [], []⟩ else if s = falseT then some ⟨7, 0, [], []⟩ else
  if s.head? = some 39 then some ⟨3, 0, replaceAll (trimSuffix s.tail [39]) [39, 39] [39], []⟩ else
  if s.head? = some 35 then (if (wholeF s.tail).2 then some ⟨4, (wholeF s.tail).1, [], []⟩ else none) else
  if s.head? = some 123 then (readSetF s).map (⟨5, 0, [], ·⟩) else
  if s.head? = some 64 then (readDayF s.tail).map (⟨6, ·, [], []⟩) else
  if s = w1T then some ⟨1, 1, [], []⟩ else if s = w2T then some ⟨1, 2, [], []⟩ else if s = w3T then some ⟨1, 3, [], []⟩ else
  (readNumF s).map (⟨2, ·, [], []⟩)
/-- a sound value -/
inductive Snd : Int → Int → List UInt8 → List Int → Prop
  | none_ : Snd 0 0 [] []
  | word {n : Int} (h1 : 1 ≤ n) (h2 : n ≤ 3) : Snd 1 n [] []
  | num {n : Int} (h1 : -999999999999999 ≤ n) (h2 : n ≤ 999999999999999) : Snd 2 n [] []
  | text (s : List UInt8) : Snd 3 0 s []
  | code {n : Int} (h1 : 1 ≤ n) (h2 : n ≤ 999) : Snd 4 n [] []
  | set {l : List Int} (h : ∀ c ∈ l, 1 ≤ c ∧ c ≤ 999) : Snd 5 0 [] l
  | day {n : Int} (h1 : -25567 ≤ n) (h2 : n ≤ 84005) : Snd 6 n [] []
  | bool {n : Int} (h1 : 0 ≤ n) (h2 : n ≤ 1) : Snd 7 n [] []
theorem itoa_nat (n : Nat) : itoa (n : Int) = decDigits n := by unfold itoa; rw [if_neg (by omega)]; simp
theorem digB_of {l : List UInt8} (h : ∀ b ∈ l, isDig b) : l.all digB = true := by
  rw [List.all_eq_true]
  intro b hb
  have := h b hb
  unfold isDig at this
  simp [digB, this.1, this.2]
theorem whole_dig {l : List UInt8} (h : ∀ b ∈ l, isDig b) (h0 : l ≠ []) (hl : l.length ≤ 15) : wholeF l = (digVal l, true) := by
  unfold wholeF
  rw [if_neg (by simp [h0]; omega), if_pos (digB_of h)]
theorem dec_ne (n : Nat) : decDigits n ≠ [] := fun h => by have := dec_pos n; rw [h] at this; simp at this
theorem whole_dec {n : Nat} (h : (decDigits n).length ≤ 15) : wholeF (decDigits n) = (n, true) := by rw [whole_dig (dig_dec n) (dec_ne n) h, digVal_dec]
theorem pad_dig (w n : Nat) : ∀ b ∈ padT w n, isDig b := by
  intro b hb
  unfold padT at hb
  rw [itoa_nat] at hb
  rcases List.mem_append.1 hb with h | h
  · exact dig_zeros _ b h
  · exact dig_dec n b h
theorem pad_ne (w n : Nat) : padT w n ≠ [] := by unfold padT; rw [itoa_nat]; simp [dec_ne]
theorem pad_val (w n : Nat) : digVal (padT w n) = n := by unfold padT; rw [itoa_nat, digVal_zeros, digVal_dec]
theorem pad_len {w n : Nat} (h : (decDigits n).length ≤ w) : (padT w n).length = w := by unfold padT; rw [itoa_nat]; simp [zeros]; omega
theorem whole_pad {w n : Nat} (h : (decDigits n).length ≤ w) (hw : w ≤ 15) : wholeF (padT w n) = (n, true) := by
  rw [whole_dig (pad_dig w n) (pad_ne w n) (by rw [pad_len h]; exact hw), pad_val]
theorem dig_ne {l : List UInt8} (h : ∀ b ∈ l, isDig b) {c : UInt8} (hc : ¬ isDig c) : c ∉ l := fun hm => hc (h c hm)
theorem nd45 : ¬ isDig 45 := by unfold isDig; decide
theorem nd46 : ¬ isDig 46 := by unfold isDig; decide
theorem nd44 : ¬ isDig 44 := by unfold isDig; decide
theorem index_byte_none {c : UInt8} : ∀ {l : List UInt8}, c ∉ l → index l [c] = -1
  | [], _ => rfl
  | b :: r, h => by
    rw [index_cons, index_byte_none (fun hm => h (List.mem_cons_of_mem _ hm)), if_neg]
    · rfl
    · simp [List.isPrefixOf]
      exact fun e => h (by rw [e]; exact List.mem_cons_self ..)
theorem index_byte_at {c : UInt8} : ∀ {a : List UInt8} (b : List UInt8), c ∉ a → index (a ++ c :: b) [c] = a.length
  | [], b, _ => by rw [List.nil_append, index_cons, if_pos (by simp [List.isPrefixOf])]; rfl
  | x :: r, b, h => by
    rw [List.cons_append, index_cons, index_byte_at b (fun hm => h (List.mem_cons_of_mem _ hm)), if_neg, if_neg (by omega)]
    · simp
    · simp [List.isPrefixOf]
      exact fun e => h (by rw [e]; exact List.mem_cons_self ..)
theorem cut_none {c : UInt8} {l : List UInt8} (h : c ∉ l) : cut l [c] = (l, [], false) := by unfold cut; rw [index_byte_none h, if_neg (by decide)]
theorem cut_at {c : UInt8} {a : List UInt8} (b : List UInt8) (h : c ∉ a) : cut (a ++ c :: b) [c] = (a, b, true) := by
  unfold cut
  rw [index_byte_at b h, if_pos (by omega)]
  simp [List.drop_append]
theorem splitK_miss (sep : List UInt8) (save k : Nat) (s : List UInt8) (h : index s sep = -1) : splitK sep save k s = [s] := by
  cases k with
  | zero => rfl
  | succ k => unfold splitK; simp [h]
theorem split_one {c : UInt8} {l : List UInt8} (h : c ∉ l) : split l [c] = [l] := splitK_miss _ _ _ _ (index_byte_none h)
theorem split_at {c : UInt8} {a : List UInt8} (b : List UInt8) (h : c ∉ a) : split (a ++ c :: b) [c] = a :: split b [c] := by
  have hi := index_byte_at b h
  have hm : (index (a ++ c :: b) [c] == -1) = false := by rw [hi, beq_eq_false_iff_ne]; omega
  unfold split
  rw [count_hit (by simp) hi, Nat.add_comm, splitK]
  simp only [hm, Bool.false_eq_true, if_false]
  rw [hi]
  simp [List.drop_append, List.drop_eq_nil_of_le]
theorem split_join {c : UInt8} : ∀ {ps : List (List UInt8)}, ps ≠ [] → (∀ p ∈ ps, c ∉ p) → split (join ps [c]) [c] = ps
  | [], h, _ => absurd rfl h
  | [p], _, h => by rw [join_one]; exact split_one (h p (List.mem_cons_self ..))
  | p :: q :: r, _, h => by
    have e : join (p :: q :: r) [c] = p ++ c :: join (q :: r) [c] := by
      rw [join_cons, join_cons]; simp [joinTail]
    rw [e, split_at _ (h p (List.mem_cons_self ..)), split_join (by simp) (fun x hx => h x (List.mem_cons_of_mem _ hx))]
end Go.Proofs.YtobanldeicclmaaGreatDoor.Vtx
namespace Go.Proofs.YtobanldeicclmaaGreatDoor
open Vtx
/-- the row of the table in which an expression stands -/
def rowN (e : Ex) : Int :=
  if e.k = 1 ∧ e.v.k = 2 ∧ e.v.n < 0 then 7 else if e.k ≠ 4 then 8 else if e.op = 3 then 1 else if e.op = 2 then 2 else if e.op = 1 then 3 else
  if 4 ≤ e.op ∧ e.op ≤ 11 then 4 else if e.op = 15 ∨ e.op = 16 then 5 else if e.op = 17 ∨ e.op = 18 ∨ e.op = 19 then 6 else if e.op = 20 then 7 else 8
/-- the sign or word of an operation between two parts -/
def infixT (op : Int) : List UInt8 :=
  if op = 4 then [61] else if op = 5 then [60, 62] else if op = 6 then [60] else if op = 7 then [60, 61] else if op = 8 then [62] else if op = 9 then [62, 61] else
  if op = 10 then [105, 110] else if op = 11 then [104, 97, 115] else if op = 15 then [43] else if op = 16 then [45] else if op = 17 then [42] else if op = 18 then [47] else
  if op = 19 then [109, 111, 100] else []
def funcsL : List (Int × List UInt8) := [(12, [97, 110, 115, 119, 101, 114, 101, 100]), (13, [97, 115, 107, 101, 100]), (14, [114, 101, 97, 115, 111, 110]), (21, [97, 98, 115]), (22, [102, 108, 111, 111, 114]),
  (23, [114, 111, 117, 110, 100]), (24, [109, 105, 110]), (25, [109, 97, 120]), (26, [105, 102]), (27, [101, 108, 115, 101]), (28, [115, 105, 122, 101]),
  (29, [99, 111, 100, 101]), (30, [108, 111, 119, 101, 114]), (31, [106, 111, 105, 110]), (32, [98, 101, 103, 105, 110, 115]), (33, [104, 111, 108, 100, 115]),
  (34, [121, 101, 97, 114]), (35, [109, 111, 110, 116, 104]), (36, [100, 97, 121]), (37, [100, 97, 121, 115]), (38, [97, 103, 101]), (39, [108, 97, 116, 101, 114])]
def funcT (op : Int) : List UInt8 := match funcsL.find? (fun p => decide (p.1 = op)) with
  | some p => p.2
  | none => []
def oversL : List (List UInt8) := [[], [115, 117, 109], [99, 111, 117, 110, 116], [97, 110, 121], [97, 108, 108], [108, 101, 97, 115, 116], [109, 111, 115, 116]]
def overT' (op : Int) : List UInt8 := oversL.getD op.toNat []
def headNeg (l : List Ex) : Bool := match l with
  | a :: _ => decide (a.k = 1) && (decide (a.v.k = 2) && decide (0 ≤ a.v.n))
  | [] => false
/-- the text of a part where a row, or a tighter one, can stand -/
def parT (b : Bool) (t : List UInt8) : List UInt8 := if b then 40 :: (t ++ [41]) else t
mutual
noncomputable def Ex.text : Ex → List UInt8
  | .mk k op nm v ar =>
    if k = 1 then showT v.k v.n v.s.data.toList v.l else if k = 2 then nm.data.toList else if k = 3 then [114, 111, 119, 40] ++ nm.data.toList ++ [41] else
    if k = 5 then overT' op ++ [40] ++ nm.data.toList ++ [58, 32] ++ (insL 0 ar).getD 0 [] ++ [41] else
    if op = 3 then Lib.join (insL 2 ar) [32, 111, 114, 32] else if op = 2 then Lib.join (insL 3 ar) [32, 97, 110, 100, 32] else
    if op = 1 then [110, 111, 116, 32] ++ (insL 3 ar).getD 0 [] else
    if 4 ≤ op ∧ op ≤ 11 then (insL 5 ar).getD 0 [] ++ [32] ++ infixT op ++ [32] ++ (insL 5 ar).getD 1 [] else
    if op = 15 ∨ op = 16 then (insL 5 ar).getD 0 [] ++ [32] ++ infixT op ++ [32] ++ (insL 6 ar).getD 1 [] else
    if op = 17 ∨ op = 18 ∨ op = 19 then (insL 6 ar).getD 0 [] ++ [32] ++ infixT op ++ [32] ++ (insL 7 ar).getD 1 [] else
    if op = 20 then (if headNeg ar = true then [45, 40] ++ (insL 0 ar).getD 0 [] ++ [41] else [45] ++ (insL 7 ar).getD 0 []) else
    funcT op ++ [40] ++ Lib.join (insL 1 ar) [44, 32] ++ [41]
noncomputable def insL (least : Int) : List Ex → List (List UInt8)
  | [] => []
  | a :: r => parT (decide (rowN a < least)) a.text :: insL least r
end
theorem text_eq (e : Ex) : e.text =
    if e.k = 1 then showT e.v.k e.v.n e.v.s.data.toList e.v.l else if e.k = 2 then e.nm.data.toList else if e.k = 3 then [114, 111, 119, 40] ++ e.nm.data.toList ++ [41] else
    if e.k = 5 then overT' e.op ++ [40] ++ e.nm.data.toList ++ [58, 32] ++ (insL 0 e.ar).getD 0 [] ++ [41] else
    if e.op = 3 then Lib.join (insL 2 e.ar) [32, 111, 114, 32] else if e.op = 2 then Lib.join (insL 3 e.ar) [32, 97, 110, 100, 32] else
    if e.op = 1 then [110, 111, 116, 32] ++ (insL 3 e.ar).getD 0 [] else
    if 4 ≤ e.op ∧ e.op ≤ 11 then (insL 5 e.ar).getD 0 [] ++ [32] ++ infixT e.op ++ [32] ++ (insL 5 e.ar).getD 1 [] else
    if e.op = 15 ∨ e.op = 16 then (insL 5 e.ar).getD 0 [] ++ [32] ++ infixT e.op ++ [32] ++ (insL 6 e.ar).getD 1 [] else
    if e.op = 17 ∨ e.op = 18 ∨ e.op = 19 then (insL 6 e.ar).getD 0 [] ++ [32] ++ infixT e.op ++ [32] ++ (insL 7 e.ar).getD 1 [] else
    if e.op = 20 then (if headNeg e.ar = true then [45, 40] ++ (insL 0 e.ar).getD 0 [] ++ [41] else [45] ++ (insL 7 e.ar).getD 0 []) else
    funcT e.op ++ [40] ++ Lib.join (insL 1 e.ar) [44, 32] ++ [41] := by
  cases e; rw [Ex.text]; rfl
theorem insL_map (least : Int) : ∀ ar : List Ex, insL least ar = ar.map (fun a => parT (decide (rowN a < least)) a.text)
  | [] => by simp [insL]
  | a :: r => by rw [insL, insL_map least r]; rfl
theorem row_bd (e : Ex) : 1 ≤ rowN e ∧ rowN e ≤ 8 := by
  unfold rowN
  repeat' split
  all_goals omega
theorem ins0 (ar : List Ex) : insL 0 ar = ar.map Ex.text := by
  rw [insL_map]
  refine List.map_congr_left fun a _ => ?_
  have := row_bd a
  unfold parT
  rw [decide_eq_false (by omega)]; rfl
theorem joinTail_len (sep : List UInt8) : ∀ r : List (List UInt8), (Lib.joinTail sep r).length = (r.map List.length).sum + sep.length * r.length
  | [] => by simp [Lib.joinTail]
  | a :: r => by
    have ih := joinTail_len sep r
    unfold Lib.joinTail at *
    simp only [List.map_cons, List.flatten_cons, List.length_append, List.sum_cons, List.length_cons, Nat.mul_succ] at *
    omega
theorem join_len (l : List (List UInt8)) (sep : List UInt8) : (Lib.join l sep).length ≤ (l.map List.length).sum + sep.length * l.length := by
  cases l with
  | nil => rw [Lib.join_nil]; simp
  | cons a r =>
    rw [Lib.join_cons, List.length_append, joinTail_len]
    simp only [List.map_cons, List.sum_cons, List.length_cons, Nat.mul_succ]
    omega
end Go.Proofs.YtobanldeicclmaaGreatDoor
namespace Go.Proofs.YtobanldeicclmaaGreatDoor
open Vtx
structure Tok where
  at_ : Nat
  tx : List UInt8
  touch : Bool
def spanP (p : UInt8 → Bool) : List UInt8 → Nat
  | [] => 0
  | c :: r => if p c then spanP p r + 1 else 0
/-- of the bytes behind a quote: how many belong to its text -/
def quotedN : List UInt8 → Nat
  | [] => 0
  | [_] => 1
  | c :: d :: r => if c ≠ 39 then quotedN (d :: r) + 1 else if d = 39 then quotedN r + 2 else 1
/-- of the bytes behind a brace: how many belong to its set -/
def braceN : List UInt8 → Nat
  | [] => 0
  | c :: r => if c = 125 then 1 else braceN r + 1
def stopB (c : UInt8) : Bool := digB c || decide (c = 46)
def hyphB (c : UInt8) : Bool := digB c || decide (c = 45)
def blankB (c : UInt8) : Bool := decide (c = 32)
def twoB (c d : UInt8) : Bool := decide (c = 60 ∧ (d = 62 ∨ d = 61)) || decide (c = 62 ∧ d = 61)
def signLen (c : UInt8) (r : List UInt8) : Nat := match r with
  | d :: _ => if twoB c d then 2 else 1
  | [] => 1
/-- how long the word is that begins there -/
def wordLen : List UInt8 → Nat
  | [] => 0
  | c :: r =>
    if lowB c then spanP wordB r + 1 else if digB c then spanP stopB r + 1 else if c = 64 then spanP hyphB r + 1 else if c = 35 then spanP digB r + 1 else
    if c = 39 then quotedN r + 1 else if c = 123 then braceN r + 1 else signLen c r
/-- the word that is met from a place on -/
def tokAt (s : List UInt8) (i : Nat) : Option Tok :=
  if i + spanP blankB (s.drop i) < s.length then
    some ⟨i + spanP blankB (s.drop i), (s.drop (i + spanP blankB (s.drop i))).take (wordLen (s.drop (i + spanP blankB (s.drop i)))),
      decide (spanP blankB (s.drop i) = 0) && decide (0 < i) && wordB (s.getD (i - 1) 0) && wordB (s.getD i 0)⟩
  else none
def toks (s : List UInt8) : Nat → Nat → List Tok
  | 0, _ => []
  | f + 1, i => match tokAt s i with
    | none => []
    | some t => t :: toks s f (t.at_ + t.tx.length)
/-- the words from a place on -/
def wordsOf (s : List UInt8) (i : Nat) : List Tok := toks s (s.length + 1) i
theorem span_le (p : UInt8 → Bool) : ∀ l, spanP p l ≤ l.length
  | [] => Nat.le_refl _
  | c :: r => by
    rw [spanP, List.length_cons]
    have := span_le p r
    split <;> omega
theorem quoted_le : ∀ l, quotedN l ≤ l.length
  | [] => Nat.le_refl _
  | [_] => Nat.le_refl _
  | c :: d :: r => by
    rw [quotedN]
    have h1 := quoted_le (d :: r)
    have h2 := quoted_le r
    simp only [List.length_cons] at *
    split
    · omega
    · split <;> omega
theorem brace_le : ∀ l, braceN l ≤ l.length
  | [] => Nat.le_refl _
  | c :: r => by
    rw [braceN, List.length_cons]
    have := brace_le r
    split <;> omega
theorem signLen_le (c : UInt8) (r : List UInt8) : 1 ≤ signLen c r ∧ signLen c r ≤ r.length + 1 := by
  cases r with
  | nil => exact ⟨Nat.le_refl _, Nat.le_refl _⟩
  | cons d r =>
    unfold signLen
    simp only [List.length_cons]
    split <;> omega
theorem wordLen_bd (c : UInt8) (r : List UInt8) : 1 ≤ wordLen (c :: r) ∧ wordLen (c :: r) ≤ r.length + 1 := by
  rw [wordLen]
  have h1 := span_le wordB r
  have h2 := span_le stopB r
  have h3 := span_le hyphB r
  have h4 := span_le digB r
  have h5 := quoted_le r
  have h6 := brace_le r
  have h7 := signLen_le c r
  repeat' split
  all_goals omega
theorem wordLen_le (l : List UInt8) : wordLen l ≤ l.length := by
  cases l with
  | nil => exact Nat.le_refl _
  | cons c r => exact (wordLen_bd c r).2
theorem wordLen_pos (c : UInt8) (r : List UInt8) : 0 < wordLen (c :: r) := (wordLen_bd c r).1
/-- a word lies in its text -/
theorem tok_in {s : List UInt8} {i : Nat} {t : Tok} (h : tokAt s i = some t) : i ≤ t.at_ ∧ t.at_ < s.length ∧ 0 < t.tx.length ∧ t.at_ + t.tx.length ≤ s.length ∧ t.at_ = i + spanP blankB (s.drop i) ∧ t.tx = (s.drop t.at_).take (wordLen (s.drop t.at_)) ∧ t.tx.length = wordLen (s.drop t.at_) := by
  unfold tokAt at h
  split at h
  · rename_i hlt
    injection h with h
    subst h
    generalize hj : i + spanP blankB (s.drop i) = j at hlt ⊢
    have hd : ∃ c r, s.drop j = c :: r := by
      cases e : s.drop j with
      | nil => have := congrArg List.length e; simp at this; omega
      | cons c r => exact ⟨c, r, rfl⟩
    obtain ⟨c, r, e⟩ := hd
    have h1 := wordLen_le (s.drop j)
    have h2 : 0 < wordLen (s.drop j) := by rw [e]; exact wordLen_pos c r
    have h3 : (s.drop j).length = s.length - j := List.length_drop
    have h4 : ((s.drop j).take (wordLen (s.drop j))).length = wordLen (s.drop j) := by rw [List.length_take]; omega
    dsimp only
    exact ⟨by omega, hlt, by omega, by omega, rfl, rfl, h4⟩
  · cases h
theorem toks_fuel (s : List UInt8) : ∀ (f f' i : Nat), s.length < f + i → s.length < f' + i → toks s f i = toks s f' i
  | 0, 0, _, _, _ => rfl
  | 0, f' + 1, i, h, _ => by
    rw [toks, toks]
    split
    · rfl
    · rename_i t ht
      have := tok_in ht
      omega
  | f + 1, 0, i, _, h => by
    rw [toks, toks]
    split
    · rfl
    · rename_i t ht
      have := tok_in ht
      omega
  | f + 1, f' + 1, i, h, h' => by
    rw [toks, toks]
    split
    · rfl
    · rename_i t ht
      have := tok_in ht
      rw [toks_fuel s f f' _ (by omega) (by omega)]
theorem words_eq (s : List UInt8) (i : Nat) : wordsOf s i = match tokAt s i with
    | none => []
    | some t => t :: wordsOf s (t.at_ + t.tx.length) := by
  unfold wordsOf
  rw [toks]
  split
  · rfl
  · rename_i t ht
    have := tok_in ht
    rw [toks_fuel s s.length (s.length + 1) _ (by omega) (by omega)]
theorem words_len (s : List UInt8) : ∀ (f i : Nat), (toks s f i).length ≤ s.length - i
  | 0, _ => by simp [toks]
  | f + 1, i => by
    rw [toks]
    split
    · simp
    · rename_i t ht
      have h1 := tok_in ht
      have h2 := words_len s f (t.at_ + t.tx.length)
      rw [List.length_cons]
      omega
open Classical in
/-- what Read reads -/
noncomputable def readF (s : List UInt8) : Option Val := if h : ∃ v : Val, checkV v = 0 ∧ showT v.k v.n v.s.data.toList v.l = s then some h.choose else none
/-- a blank that stays: within a number -/
def keepB (out l : List UInt8) : Bool := match out.getLast?, l with
  | some a, d :: _ => (digB a || decide (a = 35)) && digB d
  | _, _ => false
/-- a Set without the blanks between its words -/
def tightF : Nat → List UInt8 → List UInt8 → List UInt8
  | 0, out, _ => out
  | _ + 1, out, [] => out
  | f + 1, out, c :: r => if c ≠ 32 then tightF f (out ++ [c]) r else tightF f (if keepB out (r.dropWhile blankB) then out ++ [32] else out) (r.dropWhile blankB)
def tightT (s : List UInt8) : List UInt8 := tightF (s.length + 1) [] s
inductive NT | or | orL | and | andL | not | sum | sumL | product | productL | minus | primary | args (o : Int) | argsL (o : Int)
inductive Res | ok (es : List Ex) (l : List Tok) | err (k : Nat)
def isW (l : List Tok) (w : List UInt8) : Bool := match l with
  | t :: _ => !t.touch && decide (t.tx = w)
  | [] => false
def placeF (n : Nat) (l : List Tok) : Nat := match l with
  | t :: _ => t.at_
  | [] => n
def zeroX : Val := ⟨0, 0, ⟨#[]⟩, []⟩
def mkOp (o : Int) (l : List Ex) : Ex := .mk 4 o ⟨#[]⟩ zeroX l
def constE (v : Val) : Ex := .mk 1 0 ⟨#[]⟩ v []
def nameE (k o : Int) (nm : List UInt8) (l : List Ex) : Ex := .mk k o ⟨nm.toArray⟩ zeroX l
def joinE (o : Int) (l : List Ex) : List Ex := match l with
  | [e] => [e]
  | l => [mkOp o l]
/-- the operation whose sign or word stands there -/
def signOf (a b : Int) (l : List Tok) : Int :=
  if isW l [] then 0 else match ([4, 5, 6, 7, 8, 9, 10, 11, 15, 16, 17, 18, 19] : List Int).find? (fun o => decide (a ≤ o) && decide (o ≤ b) && decide (infixT o ≠ []) && isW l (infixT o)) with
  | some o => o
  | none => 0
def orW : List UInt8 := [111, 114]
def andW : List UInt8 := [97, 110, 100]
def notW : List UInt8 := [110, 111, 116]
def rowW : List UInt8 := [114, 111, 119]
/-- a number stands directly behind -/
def numNext (l : List Tok) : Bool := match l with
  | t :: u :: _ => decide (u.at_ = t.at_ + 1) && (match u.tx with
    | c :: _ => digB c
    | [] => false)
  | _ => false
def constB (w : List UInt8) : Bool := (match w with
  | c :: _ => digB c || decide (c = 64) || decide (c = 35) || decide (c = 39) || decide (c = 123)
  | [] => false) || decide (w = trueT) || decide (w = falseT)
def braceB (w : List UInt8) : Bool := match w with
  | c :: _ => decide (c = 123)
  | [] => false
def nameB (w : List UInt8) : Bool := (match w with
  | c :: _ => lowB c
  | [] => false) && !reservedL.contains w
/-- a bracket stands directly behind a word -/
def calledB (t : Tok) (r : List Tok) : Bool := match r with
  | u :: _ => decide (u.tx = [40]) && decide (u.at_ = t.at_ + t.tx.length)
  | [] => false
def overOf (w : List UInt8) : Int := match ([1, 2, 3, 4, 5, 6] : List Int).find? (fun o => decide (overT' o = w)) with
  | some o => o
  | none => 0
def opOf (w : List UInt8) : Int := match funcsL.find? (fun p => decide (p.2 = w)) with
  | some p => p.1
  | none => 0
def nameAt (l : List Tok) : Option (List UInt8) := match l with
  | t :: _ => if !t.touch && nameB t.tx then some t.tx else none
  | [] => none
def Res.bind (r : Res) (k : List Ex → List Tok → Res) : Res := match r with
  | .ok es l => k es l
  | .err p => .err p
/-- takes a word that must be there -/
def takeF (n : Nat) (w : List UInt8) (l : List Tok) (k : List Tok → Res) : Res := if isW l w then k l.tail else .err (placeF n l)
noncomputable def stepP (n : Nat) (p : NT → List Ex → List Tok → Res) (nt : NT) (acc : List Ex) (l : List Tok) : Res := match nt with
  | .or => (p .and [] l).bind fun es l1 => p .orL es l1
  | .orL => if isW l orW then (p .and [] l.tail).bind fun es l1 => p .orL (acc ++ es) l1 else .ok (joinE 3 acc) l
  | .and => (p .not [] l).bind fun es l1 => p .andL es l1
  | .andL => if isW l andW then (p .not [] l.tail).bind fun es l1 => p .andL (acc ++ es) l1 else .ok (joinE 2 acc) l
  | .not => if isW l notW then (p .not [] l.tail).bind fun es l1 => .ok [mkOp 1 es] l1 else
        (p .sum [] l).bind fun es l1 => if signOf 4 11 l1 = 0 then .ok es l1 else (p .sum [] l1.tail).bind fun es2 l2 => .ok [mkOp (signOf 4 11 l1) (es ++ es2)] l2
  | .sum => (p .product [] l).bind fun es l1 => p .sumL es l1
  | .sumL => if signOf 15 16 l = 0 then .ok acc l else (p .product [] l.tail).bind fun es l1 => p .sumL [mkOp (signOf 15 16 l) (acc ++ es)] l1
  | .product => (p .minus [] l).bind fun es l1 => p .productL es l1
  | .productL => if signOf 17 19 l = 0 then .ok acc l else (p .minus [] l.tail).bind fun es l1 => p .productL [mkOp (signOf 17 19 l) (acc ++ es)] l1
  | .minus => if isW l [45] then
        (if numNext l then (match l with
          | t :: u :: r => (match readF (45 :: u.tx) with
            | some v => .ok [constE v] r
            | none => .err t.at_)
          | _ => .err 0)
        else (p .minus [] l.tail).bind fun es l1 => .ok [mkOp 20 es] l1)
        else p .primary [] l
  | .primary => match l with
      | [] => .err n
      | t :: r =>
        if t.touch then .err t.at_ else
        if constB t.tx then (match readF (if braceB t.tx then tightT t.tx else t.tx) with
          | some v => .ok [constE v] r
          | none => .err t.at_) else
        if t.tx = [40] then (p .or [] r).bind fun es l1 => takeF n [41] l1 fun l2 => .ok es l2 else
        if nameB t.tx = false then .err t.at_ else
        if calledB t r = false then .ok [nameE 2 0 t.tx []] r else
        if overOf t.tx ≠ 0 then (match nameAt r.tail with
          | none => .err (placeF n r.tail)
          | some nm => takeF n [58] r.tail.tail fun l1 => (p .or [] l1).bind fun es l2 => takeF n [41] l2 fun l3 => .ok [nameE 5 (overOf t.tx) nm es] l3) else
        if opOf t.tx ≠ 0 then (p (.args (opOf t.tx)) [] r.tail).bind fun es l1 => takeF n [41] l1 fun l2 => .ok [mkOp (opOf t.tx) es] l2 else
        if t.tx = rowW then (match nameAt r.tail with
          | none => .err (placeF n r.tail)
          | some nm => takeF n [41] r.tail.tail fun l1 => .ok [nameE 3 0 nm []] l1) else
        .ok [nameE 2 0 t.tx []] r
  | .args o => (p .or [] l).bind fun es l1 => p (.argsL o) es l1
  | .argsL o => if acc.length < (arOf o).1 ∨ (isW l [44] = true ∧ acc.length < (arOf o).2) then takeF n [44] l fun l1 => (p .or [] l1).bind fun es l2 => p (.argsL o) (acc ++ es) l2 else .ok acc l
noncomputable def P (n : Nat) : Nat → NT → List Ex → List Tok → Res
  | 0, _, _, _ => .err 0
  | f + 1, nt, acc, l => stepP n (P n f) nt acc l
def levN : NT → Nat
  | .primary => 1
  | .minus => 2
  | .productL => 2
  | .product => 3
  | .sumL => 3
  | .sum => 4
  | .not => 5
  | .andL => 5
  | .and => 6
  | .orL => 6
  | .or => 7
  | .argsL _ => 7
  | .args _ => 8
theorem bind_len {r : Res} {k : List Ex → List Tok → Res} {m : Nat} {es : List Ex} {l' : List Tok} (h : r.bind k = .ok es l') (h1 : ∀ es1 l1, r = .ok es1 l1 → l1.length ≤ m) (h2 : ∀ es1 l1, l1.length ≤ m → k es1 l1 = .ok es l' → l'.length ≤ m) : l'.length ≤ m := by
  cases r with
  | err p => cases h
  | ok es1 l1 => exact h2 es1 l1 (h1 es1 l1 rfl) h
theorem take_len {n m : Nat} {w : List UInt8} {l : List Tok} {k : List Tok → Res} {es : List Ex} {l' : List Tok} (h : takeF n w l k = .ok es l') (hm : l.length ≤ m) (h2 : ∀ l1, l1.length ≤ m → k l1 = .ok es l' → l'.length ≤ m) : l'.length ≤ m := by
  unfold takeF at h
  split at h
  · exact h2 _ (by rw [List.length_tail]; omega) h
  · cases h
theorem tail_le {l : List Tok} {m : Nat} (h : l.length ≤ m) : l.tail.length ≤ m := by rw [List.length_tail]; omega
/-- what is left is no more than there was -/
theorem P_len (n : Nat) : ∀ (f : Nat) (nt : NT) (acc : List Ex) (l : List Tok) (es : List Ex) (l' : List Tok) (m : Nat), P n f nt acc l = .ok es l' → l.length ≤ m → l'.length ≤ m
  | 0, _, _, _, _, _, _, h, _ => by cases h
  | f + 1, nt, acc, l, es, l', m, h, hm => by
    have ih := P_len n f
    have ht := tail_le hm
    rw [P] at h
    cases nt <;> dsimp only [stepP] at h
    case or => exact bind_len h (fun _ _ h => ih _ _ _ _ _ _ h hm) (fun _ _ hl h => ih _ _ _ _ _ _ h hl)
    case orL =>
      split at h
      · exact bind_len h (fun _ _ h => ih _ _ _ _ _ _ h ht) (fun _ _ hl h => ih _ _ _ _ _ _ h hl)
      · cases h; exact hm
    case and => exact bind_len h (fun _ _ h => ih _ _ _ _ _ _ h hm) (fun _ _ hl h => ih _ _ _ _ _ _ h hl)
    case andL =>
      split at h
      · exact bind_len h (fun _ _ h => ih _ _ _ _ _ _ h ht) (fun _ _ hl h => ih _ _ _ _ _ _ h hl)
      · cases h; exact hm
    case not =>
      split at h
      · exact bind_len h (fun _ _ h => ih _ _ _ _ _ _ h ht) (fun _ _ hl h => by cases h; exact hl)
      · refine bind_len h (fun _ _ h => ih _ _ _ _ _ _ h hm) (fun _ _ hl h => ?_)
        split at h
        · cases h; exact hl
        · exact bind_len h (fun _ _ h => ih _ _ _ _ _ _ h (tail_le hl)) (fun _ _ hl h => by cases h; exact hl)
    case sum => exact bind_len h (fun _ _ h => ih _ _ _ _ _ _ h hm) (fun _ _ hl h => ih _ _ _ _ _ _ h hl)
    case sumL =>
      split at h
      · cases h; exact hm
      · exact bind_len h (fun _ _ h => ih _ _ _ _ _ _ h ht) (fun _ _ hl h => ih _ _ _ _ _ _ h hl)
    case product => exact bind_len h (fun _ _ h => ih _ _ _ _ _ _ h hm) (fun _ _ hl h => ih _ _ _ _ _ _ h hl)
    case productL =>
      split at h
      · cases h; exact hm
      · exact bind_len h (fun _ _ h => ih _ _ _ _ _ _ h ht) (fun _ _ hl h => ih _ _ _ _ _ _ h hl)
    case minus =>
      split at h
      · split at h
        · split at h
          · split at h
            · cases h; simp only [List.length_cons] at hm; omega
            · cases h
          · cases h
        · exact bind_len h (fun _ _ h => ih _ _ _ _ _ _ h ht) (fun _ _ hl h => by cases h; exact hl)
      · exact ih _ _ _ _ _ _ h hm
    case primary =>
      split at h
      · cases h
      · rename_i t r
        have hr : r.length ≤ m := by rw [List.length_cons] at hm; omega
        split at h
        · cases h
        split at h
        · split at h
          · cases h; exact hr
          · cases h
        split at h
        · exact bind_len h (fun _ _ h => ih _ _ _ _ _ _ h hr) (fun _ _ hl h => take_len h hl (fun _ hl h => by cases h; exact hl))
        split at h
        · cases h
        split at h
        · cases h; exact hr
        split at h
        · split at h
          · cases h
          · exact take_len h (tail_le (tail_le hr)) (fun _ hl h => bind_len h (fun _ _ h => ih _ _ _ _ _ _ h hl) (fun _ _ hl h => take_len h hl (fun _ hl h => by cases h; exact hl)))
        split at h
        · exact bind_len h (fun _ _ h => ih _ _ _ _ _ _ h (tail_le hr)) (fun _ _ hl h => take_len h hl (fun _ hl h => by cases h; exact hl))
        split at h
        · split at h
          · cases h
          · exact take_len h (tail_le (tail_le hr)) (fun _ hl h => by cases h; exact hl)
        · cases h; exact hr
    case args => exact bind_len h (fun _ _ h => ih _ _ _ _ _ _ h hm) (fun _ _ hl h => ih _ _ _ _ _ _ h hl)
    case argsL =>
      split at h
      · exact take_len h hm (fun _ hl h => bind_len h (fun _ _ h => ih _ _ _ _ _ _ h hl) (fun _ _ hl h => ih _ _ _ _ _ _ h hl))
      · cases h; exact hm
/-- what a text is read as: the expression, the place of what is wrong, the fault -/
noncomputable def parseF (s : List UInt8) : Ex × Nat × Int :=
  if 4000 < s.length then (.mk 0 0 ⟨#[]⟩ zeroX [], 0, 2) else match P s.length (12 * (wordsOf s 0).length + 7) .or [] (wordsOf s 0) with
    | .err k => (.mk 0 0 ⟨#[]⟩ zeroX [], k, 10)
    | .ok _ (t :: _) => (.mk 0 0 ⟨#[]⟩ zeroX [], t.at_, 10)
    | .ok es [] => if checkE (es.getD 0 (.mk 0 0 ⟨#[]⟩ zeroX [])) ≠ 0 then (.mk 0 0 ⟨#[]⟩ zeroX [], 0, checkE (es.getD 0 (.mk 0 0 ⟨#[]⟩ zeroX []))) else (es.getD 0 (.mk 0 0 ⟨#[]⟩ zeroX []), 0, 0)
end Go.Proofs.YtobanldeicclmaaGreatDoor
namespace Go.Proofs.YtobanldeicclmaaGreatDoor
def bndN (nt : NT) (l : List Tok) : Nat := 12 * l.length + levN nt
/-- p and q agree below a bound, and leave no more than there was -/
structure Agree (m : Nat) (p q : NT → List Ex → List Tok → Res) : Prop where
  eq : ∀ nt acc l, bndN nt l ≤ m → p nt acc l = q nt acc l
  len : ∀ nt acc l es l', p nt acc l = .ok es l' → l'.length ≤ l.length
theorem bind_congr {r r' : Res} {k k' : List Ex → List Tok → Res} {m : Nat} (hr : r = r') (hl : ∀ es l, r = .ok es l → l.length ≤ m) (hk : ∀ es l, l.length ≤ m → k es l = k' es l) : r.bind k = r'.bind k' := by
  subst hr
  cases r with
  | err p => rfl
  | ok es l => exact hk es l (hl es l rfl)
theorem take_congr {n m : Nat} {w : List UInt8} {l : List Tok} {k k' : List Tok → Res} (hl : l.length ≤ m) (hk : ∀ l, l.length + 1 ≤ m → k l = k' l) : takeF n w l k = takeF n w l k' := by
  unfold takeF
  split
  · rename_i h
    cases l with
    | nil => cases h
    | cons t r => exact hk _ (by simpa using hl)
  · rfl
theorem isW_pos {l : List Tok} {w : List UInt8} (h : isW l w = true) : l.tail.length + 1 = l.length := by
  cases l with
  | nil => cases h
  | cons t r => rfl
theorem sign_pos {a b : Int} {l : List Tok} (h : signOf a b l ≠ 0) : l.tail.length + 1 = l.length := by
  cases l with
  | cons t r => rfl
  | nil =>
    refine absurd ?_ h
    unfold signOf
    rw [if_neg (by simp [isW])]
    rw [List.find?_eq_none.2 (fun o _ => by simp [isW])]
theorem step_congr {n m : Nat} {p q : NT → List Ex → List Tok → Res} (h : Agree m p q) (nt : NT) (acc : List Ex) (l : List Tok) (hb : bndN nt l ≤ m + 1) : stepP n p nt acc l = stepP n q nt acc l := by
  have H := h.eq
  have L := h.len
  unfold bndN at H hb
  cases nt <;> dsimp only [stepP, levN] at hb ⊢
  case or => exact bind_congr (m := l.length) (H _ _ _ (by simp only [levN]; omega)) (fun _ _ e => L _ _ _ _ _ e) (fun _ _ hl => H _ _ _ (by simp only [levN]; omega))
  case orL =>
    split
    · rename_i hw
      have := isW_pos hw
      exact bind_congr (m := l.tail.length) (H _ _ _ (by simp only [levN]; omega)) (fun _ _ e => L _ _ _ _ _ e) (fun _ _ hl => H _ _ _ (by simp only [levN]; omega))
    · rfl
  case and => exact bind_congr (m := l.length) (H _ _ _ (by simp only [levN]; omega)) (fun _ _ e => L _ _ _ _ _ e) (fun _ _ hl => H _ _ _ (by simp only [levN]; omega))
  case andL =>
    split
    · rename_i hw
      have := isW_pos hw
      exact bind_congr (m := l.tail.length) (H _ _ _ (by simp only [levN]; omega)) (fun _ _ e => L _ _ _ _ _ e) (fun _ _ hl => H _ _ _ (by simp only [levN]; omega))
    · rfl
  case not =>
    split
    · rename_i hw
      have := isW_pos hw
      exact bind_congr (m := l.tail.length) (H _ _ _ (by simp only [levN]; omega)) (fun _ _ e => L _ _ _ _ _ e) (fun _ _ hl => rfl)
    · refine bind_congr (m := l.length) (H _ _ _ (by simp only [levN]; omega)) (fun _ _ e => L _ _ _ _ _ e) (fun _ l1 hl => ?_)
      split
      · rfl
      · rename_i hs
        have := sign_pos hs
        exact bind_congr (m := l1.tail.length) (H _ _ _ (by simp only [levN]; omega)) (fun _ _ e => L _ _ _ _ _ e) (fun _ _ hl => rfl)
  case sum => exact bind_congr (m := l.length) (H _ _ _ (by simp only [levN]; omega)) (fun _ _ e => L _ _ _ _ _ e) (fun _ _ hl => H _ _ _ (by simp only [levN]; omega))
  case sumL =>
    split
    · rfl
    · rename_i hs
      have := sign_pos hs
      exact bind_congr (m := l.tail.length) (H _ _ _ (by simp only [levN]; omega)) (fun _ _ e => L _ _ _ _ _ e) (fun _ _ hl => H _ _ _ (by simp only [levN]; omega))
  case product => exact bind_congr (m := l.length) (H _ _ _ (by simp only [levN]; omega)) (fun _ _ e => L _ _ _ _ _ e) (fun _ _ hl => H _ _ _ (by simp only [levN]; omega))
  case productL =>
    split
    · rfl
    · rename_i hs
      have := sign_pos hs
      exact bind_congr (m := l.tail.length) (H _ _ _ (by simp only [levN]; omega)) (fun _ _ e => L _ _ _ _ _ e) (fun _ _ hl => H _ _ _ (by simp only [levN]; omega))
  case minus =>
    split
    · rename_i hw
      have := isW_pos hw
      split
      · rfl
      · exact bind_congr (m := l.tail.length) (H _ _ _ (by simp only [levN]; omega)) (fun _ _ e => L _ _ _ _ _ e) (fun _ _ hl => rfl)
    · exact H _ _ _ (by simp only [levN]; omega)
  case primary =>
    split
    · rfl
    · rename_i t r
      have htl : r.tail.length ≤ r.length := by rw [List.length_tail]; omega
      have htl2 : r.tail.tail.length ≤ r.length := by rw [List.length_tail]; omega
      simp only [List.length_cons] at hb
      split
      · rfl
      split
      · rfl
      split
      · exact bind_congr (m := r.length) (H _ _ _ (by simp only [levN]; omega)) (fun _ _ e => L _ _ _ _ _ e) (fun _ _ hl => rfl)
      split
      · rfl
      split
      · rfl
      split
      · split
        · rfl
        · exact take_congr (m := r.length) htl2 (fun l1 hl => bind_congr (m := r.length) (H _ _ _ (by simp only [levN]; omega)) (fun _ _ e => Nat.le_trans (L _ _ _ _ _ e) (by omega)) (fun _ _ _ => rfl))
      split
      · exact bind_congr (m := r.length) (H _ _ _ (by simp only [levN]; omega)) (fun _ _ e => Nat.le_trans (L _ _ _ _ _ e) (by omega)) (fun _ _ hl => rfl)
      · rfl
  case args => exact bind_congr (m := l.length) (H _ _ _ (by simp only [levN]; omega)) (fun _ _ e => L _ _ _ _ _ e) (fun _ _ hl => H _ _ _ (by simp only [levN]; omega))
  case argsL =>
    split
    · exact take_congr (m := l.length) (Nat.le_refl _) (fun l1 hl => bind_congr (m := l1.length) (H _ _ _ (by simp only [levN]; omega)) (fun _ _ e => L _ _ _ _ _ e) (fun _ _ hl => H _ _ _ (by simp only [levN]; omega)))
    · rfl
theorem P_fuel (n : Nat) : ∀ (f f' : Nat) (nt : NT) (acc : List Ex) (l : List Tok), bndN nt l ≤ f → bndN nt l ≤ f' → P n f nt acc l = P n f' nt acc l
  | 0, _, nt, _, _, h, _ => by unfold bndN at h; cases nt <;> simp [levN] at h
  | _ + 1, 0, nt, _, _, _, h => by unfold bndN at h; cases nt <;> simp [levN] at h
  | f + 1, f' + 1, nt, acc, l, h, h' => by
    rw [P, P]
    refine step_congr (m := min f f') ⟨fun nt acc l hb => P_fuel n f f' nt acc l (Nat.le_trans hb (Nat.min_le_left _ _)) (Nat.le_trans hb (Nat.min_le_right _ _)), fun nt acc l es l' e => P_len n f nt acc l es l' _ e (Nat.le_refl _)⟩ nt acc l (by omega)
/-- the reading without fuel -/
noncomputable def Pz (n : Nat) (nt : NT) (acc : List Ex) (l : List Tok) : Res := P n (bndN nt l) nt acc l
theorem Pz_len {n : Nat} {nt : NT} {acc : List Ex} {l : List Tok} {es : List Ex} {l' : List Tok} (h : Pz n nt acc l = .ok es l') : l'.length ≤ l.length := P_len n _ nt acc l es l' _ h (Nat.le_refl _)
theorem Pz_eq (n : Nat) (nt : NT) (acc : List Ex) (l : List Tok) : Pz n nt acc l = stepP n (Pz n) nt acc l := by
  have h1 : ∃ m, bndN nt l = m + 1 := by
    unfold bndN
    cases nt <;> exact ⟨_, rfl⟩
  obtain ⟨m, hm⟩ := h1
  unfold Pz
  rw [hm, P]
  exact step_congr (m := m) ⟨fun nt acc l hb => P_fuel n m _ nt acc l hb (Nat.le_refl _), fun nt acc l es l' e => P_len n m nt acc l es l' _ e (Nat.le_refl _)⟩ nt acc l (by omega)
theorem parse_top (s : List UInt8) : P s.length (12 * (wordsOf s 0).length + 7) .or [] (wordsOf s 0) = Pz s.length .or [] (wordsOf s 0) := rfl
end Go.Proofs.YtobanldeicclmaaGreatDoor
