/- The calendar, in plain mathematics: years, months, the number of a day, the date of a day. No program in sight. -/
import Derived.WalkKit
namespace Go.Proofs.YthnknmkekbledaaGreatDoor.Cal

def lp (y : Int) : Bool := (decide (y % 4 = 0) && decide (y % 100 ≠ 0)) || decide (y % 400 = 0)
def dim (y m : Int) : Int := if m = 2 then (if lp y = true then 29 else 28) else if m = 4 ∨ m = 6 ∨ m = 9 ∨ m = 11 then 30 else 31
def yd (y : Int) : Int := if lp y = true then 366 else 365
def base (y : Int) : Int := 365 * (y - 1970) + ((y - 1) / 4 - (y - 1) / 100 + (y - 1) / 400) - 477
def fb (y : Int) : Int := if lp y = true then 29 else 28
/-- the days of a year ahead of month m -/
def cum (y m : Int) : Int :=
  if m ≤ 1 then 0 else if m = 2 then 31 else if m = 3 then 31 + fb y else if m = 4 then 62 + fb y else if m = 5 then 92 + fb y else if m = 6 then 123 + fb y else
  if m = 7 then 153 + fb y else if m = 8 then 184 + fb y else if m = 9 then 215 + fb y else if m = 10 then 245 + fb y else if m = 11 then 276 + fb y else if m = 12 then 306 + fb y else 337 + fb y
def num (y m d : Int) : Int := base y + cum y m + d - 1

theorem lp_cases (y : Int) : (lp y = true ∧ (y % 4 = 0 ∧ y % 100 ≠ 0 ∨ y % 400 = 0)) ∨ (lp y = false ∧ ¬ (y % 4 = 0 ∧ y % 100 ≠ 0 ∨ y % 400 = 0)) := by
  unfold lp
  by_cases a : y % 4 = 0 <;> by_cases b : y % 100 = 0 <;> by_cases c : y % 400 = 0 <;> simp [a, b, c] <;> omega
theorem base_succ (y : Int) : base (y + 1) = base y + yd y := by
  unfold base yd
  rcases lp_cases y with ⟨h, e⟩ | ⟨h, e⟩
  · rw [if_pos h]; omega
  · rw [if_neg (by rw [h]; simp)]; omega
theorem base_1970 : base 1970 = 0 := by decide
theorem base_1900 : base 1900 = -25567 := by decide
theorem base_2200 : base 2200 = 84006 := by decide
theorem yd_pos (y : Int) : 365 ≤ yd y ∧ yd y ≤ 366 := by unfold yd; split <;> omega
theorem base_mono {a b : Int} (h : a ≤ b) : base a ≤ base b := by unfold base; omega
theorem base_strict {a b : Int} (h : a < b) : base a + 365 ≤ base b := by
  have h1 := base_succ a
  have h2 := yd_pos a
  have h3 := base_mono (show a + 1 ≤ b by omega)
  omega
theorem fb_cases (y : Int) : (fb y = 29 ∧ yd y = 366 ∧ lp y = true) ∨ (fb y = 28 ∧ yd y = 365 ∧ lp y = false) := by
  unfold fb yd
  cases h : lp y <;> simp
theorem cum_succ (y m : Int) (h1 : 1 ≤ m) (h2 : m ≤ 12) : cum y (m + 1) = cum y m + dim y m := by
  have : m = 1 ∨ m = 2 ∨ m = 3 ∨ m = 4 ∨ m = 5 ∨ m = 6 ∨ m = 7 ∨ m = 8 ∨ m = 9 ∨ m = 10 ∨ m = 11 ∨ m = 12 := by omega
  rcases fb_cases y with ⟨hf, -, hl⟩ | ⟨hf, -, hl⟩ <;> rcases this with rfl | rfl | rfl | rfl | rfl | rfl | rfl | rfl | rfl | rfl | rfl | rfl <;> simp [cum, dim, hf, hl]
theorem cum_one (y : Int) : cum y 1 = 0 := by simp [cum]
theorem cum_13 (y : Int) : cum y 13 = yd y := by
  rcases fb_cases y with ⟨hf, hy, -⟩ | ⟨hf, hy, -⟩ <;> simp [cum, hf, hy]
theorem dim_bd (y m : Int) : 28 ≤ dim y m ∧ dim y m ≤ 31 := by unfold dim; repeat' split <;> omega
theorem cum_bd (y m : Int) : 0 ≤ cum y m ∧ cum y m ≤ 366 := by
  rcases fb_cases y with ⟨hf, -, -⟩ | ⟨hf, -, -⟩ <;> unfold cum <;> rw [hf] <;> repeat' split <;> omega
theorem cum_mono (y : Int) {a b : Int} (h : a ≤ b) (h1 : 1 ≤ a) (h2 : b ≤ 13) : cum y a ≤ cum y b := by
  obtain ⟨k, hk⟩ : ∃ k : Nat, b = a + k := ⟨(b - a).toNat, by omega⟩
  subst hk
  clear h
  induction k with
  | zero => simp
  | succ k ih =>
    have e := cum_succ y (a + k) (by omega) (by omega)
    have d := dim_bd y (a + k)
    have := ih (by omega)
    rw [show a + ((k + 1 : Nat) : Int) = a + k + 1 from by omega]
    omega
theorem base_bd (y : Int) (h1 : 1600 ≤ y) (h2 : y ≤ 2400) : -136000 ≤ base y ∧ base y ≤ 158000 := by unfold base; omega

structure IsCivil (n y m d : Int) : Prop where
  m1 : 1 ≤ m
  m2 : m ≤ 12
  d1 : 1 ≤ d
  d2 : d ≤ dim y m
  eq : num y m d = n

theorem IsCivil.year {n y m d : Int} (h : IsCivil n y m d) : base y ≤ n ∧ n < base (y + 1) := by
  have hc := cum_bd y m
  have hs := cum_succ y m h.m1 h.m2
  have hm := cum_mono y (show m + 1 ≤ 13 by have := h.m2; omega) (by have := h.m1; omega) (by omega)
  have h13 := cum_13 y
  have hb := base_succ y
  have := h.eq
  have := h.d1
  have := h.d2
  unfold num at *
  omega
theorem IsCivil.unique {n y m d y' m' d' : Int} (h : IsCivil n y m d) (h' : IsCivil n y' m' d') : y = y' ∧ m = m' ∧ d = d' := by
  have hy : y = y' := by
    have a := h.year
    have b := h'.year
    rcases Int.lt_trichotomy y y' with l | l | l
    · have := base_mono (show y + 1 ≤ y' by omega); omega
    · exact l
    · have := base_mono (show y' + 1 ≤ y by omega); omega
  subst hy
  have hm : m = m' := by
    have a := cum_succ y m h.m1 h.m2
    have b := cum_succ y m' h'.m1 h'.m2
    have := h.eq
    have := h.d1
    have := h.d2
    have := h'.eq
    have := h'.d1
    have := h'.d2
    unfold num at *
    rcases Int.lt_trichotomy m m' with l | l | l
    · have := cum_mono y (show m + 1 ≤ m' by omega) (by have := h.m1; omega) (by have := h'.m2; omega); omega
    · exact l
    · have := cum_mono y (show m' + 1 ≤ m by omega) (by have := h'.m1; omega) (by have := h.m2; omega); omega
  subst hm
  refine ⟨rfl, rfl, ?_⟩
  have := h.eq
  have := h'.eq
  unfold num at *
  omega

open Classical in
noncomputable def civ (n : Int) : Int × Int × Int := if h : ∃ p : Int × Int × Int, IsCivil n p.1 p.2.1 p.2.2 then Classical.choose h else (0, 0, 0)
theorem civ_eq {n y m d : Int} (h : IsCivil n y m d) : civ n = (y, m, d) := by
  have hex : ∃ p : Int × Int × Int, IsCivil n p.1 p.2.1 p.2.2 := ⟨(y, m, d), h⟩
  unfold civ
  rw [dif_pos hex]
  obtain ⟨e1, e2, e3⟩ := (Classical.choose_spec hex).unique h
  exact Prod.ext e1 (Prod.ext e2 e3)
noncomputable def cy (n : Int) : Int := (civ n).1
noncomputable def cm (n : Int) : Int := (civ n).2.1
noncomputable def cd (n : Int) : Int := (civ n).2.2
theorem IsCivil.cy {n y m d : Int} (h : IsCivil n y m d) : cy n = y := by unfold Cal.cy; rw [civ_eq h]
theorem IsCivil.cm {n y m d : Int} (h : IsCivil n y m d) : cm n = m := by unfold Cal.cm; rw [civ_eq h]
theorem IsCivil.cd {n y m d : Int} (h : IsCivil n y m d) : cd n = d := by unfold Cal.cd; rw [civ_eq h]
/-- the guess of the program for a year -/
def guess (n : Int) : Int := if n < 0 then 1970 + n.tdiv 365 - 1 else 1970 + n.tdiv 366
theorem guess_ok {n : Int} (h1 : -25567 ≤ n) (h2 : n ≤ 84005) : base (guess n) ≤ n ∧ 1899 ≤ guess n ∧ guess n ≤ 2199 := by
  unfold guess
  split
  · rename_i hn
    have e : n.tdiv 365 = -((-n) / 365) := by
      obtain ⟨k, rfl⟩ : ∃ k : Nat, n = -(k : Int) := ⟨n.natAbs, by omega⟩
      rw [Int.neg_tdiv, Int.tdiv_eq_ediv_of_nonneg (by omega)]
      simp
    rw [e]
    unfold base
    omega
  · rename_i hn
    rw [Int.tdiv_eq_ediv_of_nonneg (by omega)]
    unfold base
    omega
theorem tdiv_neg_eq {n : Int} (k : Int) (hn : n < 0) : n.tdiv k = -((-n) / k) := by
  obtain ⟨j, rfl⟩ : ∃ j : Nat, n = -(j : Int) := ⟨n.natAbs, by omega⟩
  rw [Int.neg_tdiv, Int.tdiv_eq_ediv_of_nonneg (by omega)]
  simp
theorem tdiv_bd {n : Int} (h1 : -25567 ≤ n) (h2 : n ≤ 84005) : -71 ≤ n.tdiv 365 ∧ n.tdiv 365 ≤ 231 ∧ -71 ≤ n.tdiv 366 ∧ n.tdiv 366 ≤ 231 := by
  by_cases hn : n < 0
  · rw [tdiv_neg_eq 365 hn, tdiv_neg_eq 366 hn]
    omega
  · rw [Int.tdiv_eq_ediv_of_nonneg (by omega), Int.tdiv_eq_ediv_of_nonneg (by omega)]
    omega
theorem range_year {n y : Int} (h1 : -25567 ≤ n) (h2 : n ≤ 84005) (h3 : base y ≤ n) (h4 : n < base (y + 1)) : 1900 ≤ y ∧ y ≤ 2199 := by
  have a := base_1900
  have b := base_2200
  constructor
  · by_cases h : 1900 ≤ y
    · exact h
    · have := base_mono (show y + 1 ≤ 1900 by omega); omega
  · by_cases h : y ≤ 2199
    · exact h
    · have := base_mono (show 2200 ≤ y by omega); omega
theorem civil_of {n y m : Int} (h1 : base y + cum y m ≤ n) (h2 : n < base y + cum y m + dim y m) (m1 : 1 ≤ m) (m2 : m ≤ 12) : IsCivil n y m (n - (base y + cum y m) + 1) :=
  ⟨m1, m2, by omega, by omega, by unfold num; omega⟩
/-- the date of a day in the range exists -/
theorem civil_ex {n : Int} (h1 : -25567 ≤ n) (h2 : n ≤ 84005) : ∃ y m d, IsCivil n y m d := by
  have hy : ∀ k : Nat, ∀ y, base y ≤ n → 2200 - y = k → ∃ y, base y ≤ n ∧ n < base (y + 1) := by
    intro k
    induction k with
    | zero => intro y hb hk; exact ⟨y, hb, by have := base_2200; have := base_mono (show 2200 ≤ y + 1 by omega); omega⟩
    | succ k ih =>
      intro y hb hk
      by_cases h : n < base (y + 1)
      · exact ⟨y, hb, h⟩
      · exact ih (y + 1) (by omega) (by omega)
  obtain ⟨y, hb, hl⟩ := hy 300 1900 (by have := base_1900; omega) (by omega)
  have hm : ∀ k : Nat, ∀ m, 1 ≤ m → m ≤ 12 → base y + cum y m ≤ n → 12 - m = k → ∃ m d, IsCivil n y m d := by
    intro k
    induction k with
    | zero =>
      intro m m1 m2 hc hk
      obtain rfl : m = 12 := by omega
      have := cum_succ y 12 (by omega) (by omega)
      have := cum_13 y
      have := base_succ y
      exact ⟨12, _, civil_of hc (by simp only [show (12 : Int) + 1 = 13 from rfl] at *; omega) (by omega) (by omega)⟩
    | succ k ih =>
      intro m m1 m2 hc hk
      by_cases h : n < base y + cum y (m + 1)
      · exact ⟨m, _, civil_of hc (by have := cum_succ y m m1 m2; omega) m1 m2⟩
      · exact ih (m + 1) (by omega) (by omega) (by omega) (by omega)
  obtain ⟨m, d, h⟩ := hm 11 1 (by omega) (by omega) (by rw [cum_one]; omega) (by omega)
  exact ⟨y, m, d, h⟩
theorem civ_spec {n : Int} (h1 : -25567 ≤ n) (h2 : n ≤ 84005) : IsCivil n (cy n) (cm n) (cd n) := by
  obtain ⟨y, m, d, h⟩ := civil_ex h1 h2
  rw [h.cy, h.cm, h.cd]
  exact h

/-- the Day of a date, as a kind and a number; (0, 0): Missing -/
def okDate (y m d : Int) : Bool := decide (1900 ≤ y) && decide (y ≤ 2199) && decide (1 ≤ m) && decide (m ≤ 12) && decide (1 ≤ d) && decide (d ≤ dim y m)
theorem okDate_iff (y m d : Int) : okDate y m d = true ↔ (1900 ≤ y ∧ y ≤ 2199) ∧ (1 ≤ m ∧ m ≤ 12) ∧ 1 ≤ d ∧ d ≤ dim y m := by
  simp only [okDate, Bool.and_eq_true, decide_eq_true_eq]
  omega
theorem num_range {y m d : Int} (m1 : 1 ≤ m) (m2 : m ≤ 12) (d1 : 1 ≤ d) (d2 : d ≤ dim y m) : (-25567 ≤ num y m d ∧ num y m d ≤ 84005) ↔ (1900 ≤ y ∧ y ≤ 2199) := by
  have h : IsCivil (num y m d) y m d := ⟨m1, m2, d1, d2, rfl⟩
  obtain ⟨h3, h4⟩ := h.year
  constructor
  · rintro ⟨h1, h2⟩
    exact range_year h1 h2 h3 h4
  · rintro ⟨h1, h2⟩
    have a := base_1900
    have b := base_2200
    have := base_mono h1
    have := base_mono (show y + 1 ≤ 2200 by omega)
    omega
def weekday (n : Int) : Int := (n + 3) % 7
end Go.Proofs.YthnknmkekbledaaGreatDoor.Cal
