/- Ratios as texts: what the functions of ratios compute, over the rationals. The plain mathematics: no program in sight. -/
import Derived.Test.YtmpelpmhbadjoaaGreatDoorDig
namespace Go.Proofs.YtmpelpmhbadjoaaGreatDoor.Rtx
open Limb Dig

/-- the text of a rational in lowest terms -/
def numS (r : Rat) : List UInt8 := (if r.num < 0 then [45] else []) ++ decS r.num.natAbs
def denS (r : Rat) : List UInt8 := decS r.den
def bigR (r : Rat) : Prop := 2000 < (decS r.num.natAbs).length ∨ 2000 < (denS r).length
instance (r : Rat) : Decidable (bigR r) := by unfold bigR; infer_instance
/-- a sign, a numerator, a denominator -/
def ratQ (neg : Bool) (x y : Nat) : Rat := mkRat (if neg then -(x : Int) else (x : Int)) y

/-- the digits of a numerator's text, and its sign -/
def cutN (s : List UInt8) : List UInt8 × Bool := match s with
  | b :: t => if b = 45 then (t, true) else (s, false)
  | [] => ([], false)
structure R where
  n : List UInt8
  d : List UInt8
deriving DecidableEq
open Classical in
/-- the fault of a ratio's texts -/
noncomputable def fltR (a : R) : Nat :=
  if 2000 < (cutN a.n).1.length ∨ 2000 < a.d.length then 2
  else if ¬ Sound (cutN a.n).1 ∨ ¬ Sound a.d ∨ a.d = [48] ∨ ((cutN a.n).2 = true ∧ (cutN a.n).1 = [48]) then 3
  else if Nat.gcd (digVal (cutN a.n).1) (digVal a.d) ≠ 1 then 3 else 0
def valR (a : R) : Rat := ratQ (cutN a.n).2 (digVal (cutN a.n).1) (digVal a.d)
def noR : R := ⟨[], []⟩
def txtR (r : Rat) : R := ⟨numS r, denS r⟩
def outR (r : Rat) : R × Nat := if bigR r then (noR, 2) else (txtR r, 0)
noncomputable def sumR (a b : R) : R × Nat := if fltR a ≠ 0 then (noR, fltR a) else if fltR b ≠ 0 then (noR, fltR b) else outR (valR a + valR b)
noncomputable def prodR (a b : R) : R × Nat := if fltR a ≠ 0 then (noR, fltR a) else if fltR b ≠ 0 then (noR, fltR b) else outR (valR a * valR b)
noncomputable def invR (a : R) : R × Nat := if fltR a ≠ 0 then (noR, fltR a) else if valR a = 0 then (noR, 19) else outR (valR a)⁻¹
def ordQ (a b : Rat) : Int := if a < b then -1 else if b < a then 1 else 0
noncomputable def ordR (a b : R) : Int × Nat := if fltR a ≠ 0 then (0, fltR a) else if fltR b ≠ 0 then (0, fltR b) else (ordQ (valR a) (valR b), 0)

theorem decS_head (n : Nat) : ∀ t, decS n ≠ 45 :: t := by
  intro t e
  have := (decS_sound n).1 45 (by rw [e]; exact List.mem_cons.2 (Or.inl rfl))
  unfold isDig at this
  revert this; decide
theorem cutN_num (r : Rat) : cutN (numS r) = (decS r.num.natAbs, decide (r.num < 0)) := by
  unfold numS
  by_cases h : r.num < 0
  · simp [h, cutN]
  · simp only [h, if_false, List.nil_append, decide_false]
    cases e : decS r.num.natAbs with
    | nil => exact absurd e (decS_sound _).2.1
    | cons b t =>
      have hb : b ≠ 45 := fun hb => decS_head _ t (by rw [e, hb])
      simp [cutN, hb]
theorem decS_zero {n : Nat} : decS n = [48] ↔ n = 0 :=
  ⟨fun h => by have := congrArg digVal h; rw [decS_val] at this; exact this, fun h => by subst h; exact (decS_of Small.nil (fun h => absurd rfl h) rfl).symm⟩
theorem ratQ_num (r : Rat) : ratQ (decide (r.num < 0)) r.num.natAbs r.den = r := by
  unfold ratQ
  have : (if decide (r.num < 0) = true then -((r.num.natAbs : Nat) : Int) else ((r.num.natAbs : Nat) : Int)) = r.num := by
    by_cases h : r.num < 0
    · rw [if_pos (by simpa using h)]; omega
    · rw [if_neg (by simpa using h)]; omega
  rw [this, Rat.mkRat_self]
theorem flt_txt {r : Rat} (h : ¬ bigR r) : fltR (txtR r) = 0 ∧ valR (txtR r) = r := by
  have hc := cutN_num r
  have h1 : ¬ 2000 < (decS r.num.natAbs).length := fun h' => h (.inl h')
  have h2 : ¬ 2000 < (denS r).length := fun h' => h (.inr h')
  constructor
  · have c1 : (cutN (txtR r).n).1 = decS r.num.natAbs := by rw [show (txtR r).n = numS r from rfl, hc]
    have c2 : (cutN (txtR r).n).2 = decide (r.num < 0) := by rw [show (txtR r).n = numS r from rfl, hc]
    unfold fltR
    rw [c1, c2, show (txtR r).d = decS r.den from rfl]
    rw [if_neg (by simp only [not_or]; exact ⟨h1, h2⟩), if_neg, if_neg]
    · rw [decS_val, decS_val]
      exact fun h => h r.reduced
    · simp only [not_or, Classical.not_not]
      refine ⟨decS_sound _, decS_sound _, fun e => r.den_nz (decS_zero.1 e), ?_⟩
      rintro ⟨e1, e2⟩
      have := decS_zero.1 e2
      simp at e1
      omega
  · unfold valR
    rw [show (txtR r).n = numS r from rfl, hc, show (txtR r).d = decS r.den from rfl, decS_val, decS_val, ratQ_num]
theorem out_ok {r : Rat} {a : R} (h : outR r = (a, 0)) : ¬ bigR r ∧ a = txtR r ∧ fltR a = 0 ∧ valR a = r := by
  unfold outR at h
  split at h
  · cases h
  · rename_i hb
    injection h with h1
    subst h1
    exact ⟨hb, rfl, flt_txt hb⟩
theorem sum_ok {a b c : R} (h : sumR a b = (c, 0)) : fltR a = 0 ∧ fltR b = 0 ∧ c = txtR (valR a + valR b) ∧ fltR c = 0 ∧ valR c = valR a + valR b := by
  unfold sumR at h
  split at h
  · rename_i h'; injection h with _ h; exact absurd h h'
  · split at h
    · rename_i h'; injection h with _ h; exact absurd h h'
    · rename_i h1 h2
      have := out_ok h
      exact ⟨Classical.not_not.1 h1, Classical.not_not.1 h2, this.2⟩
theorem prod_ok {a b c : R} (h : prodR a b = (c, 0)) : fltR a = 0 ∧ fltR b = 0 ∧ c = txtR (valR a * valR b) ∧ fltR c = 0 ∧ valR c = valR a * valR b := by
  unfold prodR at h
  split at h
  · rename_i h'; injection h with _ h; exact absurd h h'
  · split at h
    · rename_i h'; injection h with _ h; exact absurd h h'
    · rename_i h1 h2
      have := out_ok h
      exact ⟨Classical.not_not.1 h1, Classical.not_not.1 h2, this.2⟩
theorem inv_ok {a c : R} (h : invR a = (c, 0)) : fltR a = 0 ∧ valR a ≠ 0 ∧ c = txtR (valR a)⁻¹ ∧ fltR c = 0 ∧ valR c = (valR a)⁻¹ := by
  unfold invR at h
  split at h
  · rename_i h'; injection h with _ h; exact absurd h h'
  · split at h
    · injection h with _ h; cases h
    · rename_i h1 h2
      have := out_ok h
      exact ⟨Classical.not_not.1 h1, h2, this.2⟩

/-- a result, if there is one -/
noncomputable def okR (p : R × Nat) : R × Bool := (p.1, decide (p.2 = 0))
noncomputable def bothR (f : R → R → R × Nat) (a : R) (x : Bool) (b : R) (y : Bool) : R × Bool := if x && y then okR (f a b) else (noR, false)
theorem okR_true {p : R × Nat} {a : R} (h : okR p = (a, true)) : p = (a, 0) := by
  obtain ⟨q, n⟩ := p
  unfold okR at h
  injection h with h1 h2
  simp at h1 h2
  rw [h1, h2]
theorem okR_false {p : R × Nat} {a : R} (h : okR p = (a, false)) : p.2 ≠ 0 := by
  unfold okR at h
  injection h with h1 h2
  simpa using h2
theorem both_true {f : R → R → R × Nat} {a b c : R} {x y : Bool} (h : bothR f a x b y = (c, true)) : x = true ∧ y = true ∧ f a b = (c, 0) := by
  unfold bothR at h
  split at h
  · rename_i hxy
    simp at hxy
    exact ⟨hxy.1, hxy.2, okR_true h⟩
  · injection h with _ h; cases h
/-- sums commute, failing ones too -/
theorem sum_no {a b : R} (h : (sumR a b).2 ≠ 0) : (sumR a b).1 = noR := by
  unfold sumR at *
  split
  · rfl
  · split
    · rfl
    · rename_i h1 h2
      rw [if_neg h1, if_neg h2] at h
      unfold outR at *
      split
      · rfl
      · rename_i h3; rw [if_neg h3] at h; exact absurd rfl h
theorem sum_comm (a b : R) : okR (sumR a b) = okR (sumR b a) := by
  by_cases h1 : fltR a = 0
  · by_cases h2 : fltR b = 0
    · simp only [sumR, h1, h2, ne_eq, not_true, if_false, Rat.add_comm]
    · simp [sumR, h1, h2, okR]
  · by_cases h2 : fltR b = 0
    · simp [sumR, h1, h2, okR]
    · simp [sumR, h1, h2, okR]
theorem sum_assoc {a b c ab bc l r : R} {x z : Bool} (h1 : okR (sumR a b) = (ab, x)) (h2 : okR (sumR b c) = (bc, z)) (h3 : bothR sumR ab x c true = (l, true)) (h4 : bothR sumR a true bc z = (r, true)) : l = r := by
  obtain ⟨rfl, -, g3⟩ := both_true h3
  obtain ⟨-, rfl, g4⟩ := both_true h4
  have e1 := sum_ok (okR_true h1)
  have e2 := sum_ok (okR_true h2)
  have e3 := sum_ok g3
  have e4 := sum_ok g4
  rw [e3.2.2.1, e4.2.2.1, e1.2.2.2.2, e2.2.2.2.2]
  congr 1
  grind
theorem distrib {a b c bc u w l r : R} {z v t : Bool} (h2 : okR (sumR b c) = (bc, z)) (h5 : okR (prodR a b) = (u, v)) (h6 : okR (prodR a c) = (w, t)) (h3 : bothR prodR a true bc z = (l, true)) (h4 : bothR sumR u v w t = (r, true)) : l = r := by
  obtain ⟨-, rfl, g3⟩ := both_true h3
  obtain ⟨rfl, rfl, g4⟩ := both_true h4
  have e2 := sum_ok (okR_true h2)
  have e5 := prod_ok (okR_true h5)
  have e6 := prod_ok (okR_true h6)
  have e3 := prod_ok g3
  have e4 := sum_ok g4
  rw [e3.2.2.1, e4.2.2.1, e2.2.2.2.2, e5.2.2.2.2, e6.2.2.2.2]
  congr 1
  grind
theorem txt_one : txtR 1 = ⟨[49], [49]⟩ := by
  have : decS 1 = [49] := (decS_of (l := [1]) (by intro x hx; simp at hx; omega) (by intro h; simp) rfl).symm.trans (by decide +kernel)
  unfold txtR numS denS
  rw [show (1 : Rat).num = 1 from rfl, show (1 : Rat).den = 1 from rfl]
  simp [this]
theorem inv_law {a i one : R} (h1 : invR a = (i, 0)) (h2 : okR (prodR a i) = (one, true)) : one = ⟨[49], [49]⟩ := by
  have e1 := inv_ok h1
  have e2 := prod_ok (okR_true h2)
  rw [e2.2.2.1, e1.2.2.2.2, ← txt_one]
  congr 1
  have := e1.2.1
  grind
theorem ord_law {a b c ac bc : R} (_h1 : (ordR a b).2 = 0) (h2 : okR (sumR a c) = (ac, true)) (h3 : okR (sumR b c) = (bc, true)) : ordR ac bc = ((ordR a b).1, 0) := by
  have e2 := sum_ok (okR_true h2)
  have e3 := sum_ok (okR_true h3)
  unfold ordR at *
  simp only [e2.1, e3.1, e2.2.2.2.1, e3.2.2.2.1, e2.2.2.2.2, e3.2.2.2.2, ne_eq, not_true, if_false]
  congr 1
  unfold ordQ
  by_cases hl : valR a < valR b
  · rw [if_pos hl, if_pos (by grind)]
  · rw [if_neg hl, if_neg (by grind)]
    by_cases hg : valR b < valR a
    · rw [if_pos hg, if_pos (by grind)]
    · rw [if_neg hg, if_neg (by grind)]
theorem ratQ_div (b : Bool) (x y : Nat) : ratQ b x y = (if b then -(x : Rat) else (x : Rat)) / (y : Rat) := by
  unfold ratQ
  rw [Rat.mkRat_eq_div]
  cases b <;> simp [Rat.intCast_natCast]
theorem y_ne {y : Nat} (h : 0 < y) : (y : Rat) ≠ 0 := by
  intro e
  have : ((y : Nat) : Rat) = ((0 : Nat) : Rat) := e
  have := Rat.natCast_inj.1 this
  omega
theorem ratQ_cross (b : Bool) (x y z : Nat) (hy : 0 < y) (hz : 0 < z) : ratQ b (x * z) (y * z) = ratQ b x y := by
  have h1 := y_ne hy
  have h2 := y_ne hz
  rw [ratQ_div, ratQ_div, Rat.natCast_mul, Rat.natCast_mul]
  cases b <;> simp <;> grind
theorem ratQ_same (b : Bool) (x x' y : Nat) (hy : 0 < y) : ratQ b x y + ratQ b x' y = ratQ b (x + x') y := by
  have h1 := y_ne hy
  rw [ratQ_div, ratQ_div, ratQ_div, Rat.natCast_add]
  cases b <;> simp <;> grind
theorem ratQ_diff (b : Bool) (x x' y : Nat) (hy : 0 < y) (h : x' ≤ x) : ratQ b x y + ratQ (!b) x' y = ratQ b (x - x') y := by
  have h1 := y_ne hy
  have e : ((x - x' : Nat) : Rat) = (x : Rat) - (x' : Rat) := by
    have : x = (x - x') + x' := by omega
    have e2 : (x : Rat) = ((x - x' : Nat) : Rat) + (x' : Rat) := by rw [← Rat.natCast_add, ← this]
    grind
  rw [ratQ_div, ratQ_div, ratQ_div, e]
  cases b <;> simp <;> grind
theorem ratQ_mul (b b' : Bool) (x y x' y' : Nat) (hy : 0 < y) (hy' : 0 < y') : ratQ b x y * ratQ b' x' y' = ratQ (b != b') (x * x') (y * y') := by
  have h1 := y_ne hy
  have h2 := y_ne hy'
  rw [ratQ_div, ratQ_div, ratQ_div, Rat.natCast_mul, Rat.natCast_mul]
  cases b <;> cases b' <;> simp <;> grind
theorem ratQ_inv (b : Bool) (x y : Nat) (hx : 0 < x) (hy : 0 < y) : (ratQ b x y)⁻¹ = ratQ b y x := by
  have h1 := y_ne hx
  have h2 := y_ne hy
  rw [ratQ_div, ratQ_div]
  cases b <;> simp <;> grind
theorem ratQ_not (b : Bool) (x y : Nat) : ratQ (!b) x y = - ratQ b x y := by
  rw [ratQ_div, ratQ_div]
  cases b <;> simp <;> grind
theorem ratQ_zero (b : Bool) (x y : Nat) (hy : 0 < y) : ratQ b x y = 0 ↔ x = 0 := by
  have h2 := y_ne hy
  rw [ratQ_div]
  constructor
  · intro h
    have : (x : Rat) = ((0 : Nat) : Rat) := by
      show (x : Rat) = 0
      cases b <;> simp at h <;> grind
    exact Rat.natCast_inj.1 this
  · rintro rfl
    cases b <;> simp <;> grind
theorem ratQ_low (b : Bool) (x y : Nat) (hy : 0 < y) : (ratQ b x y).num.natAbs = x / Nat.gcd x y ∧ (ratQ b x y).den = y / Nat.gcd x y ∧ ((ratQ b x y).num < 0 ↔ b = true ∧ 0 < x) := by
  unfold ratQ
  have hy0 : ¬ y = 0 := by omega
  rw [Rat.num_mkRat, Rat.den_mkRat, if_neg hy0, if_neg hy0]
  have hd : Nat.gcd x y ∣ x := Nat.gcd_dvd_left x y
  have hg : 0 < Nat.gcd x y := Nat.gcd_pos_of_pos_right x hy
  have hq : 0 < x / Nat.gcd x y ↔ 0 < x := by
    constructor
    · intro h
      rcases Nat.eq_zero_or_pos x with rfl | h'
      · simp at h
      · exact h'
    · intro h
      exact Nat.div_pos (Nat.gcd_le_left y h) hg
  cases b
  · simp only [Bool.false_eq_true, if_false, Int.natAbs_natCast, Nat.gcd_comm y x, false_and, iff_false]
    rw [← Int.natCast_ediv]
    exact ⟨Int.natAbs_natCast _, trivial, fun h => absurd h (Int.not_lt.2 (Int.natCast_nonneg _))⟩
  · simp only [if_true, Int.natAbs_neg, Int.natAbs_natCast, Nat.gcd_comm y x, true_and]
    rw [Int.neg_ediv_of_dvd (Int.natCast_dvd_natCast.2 hd), ← Int.natCast_ediv]
    exact ⟨by rw [Int.natAbs_neg, Int.natAbs_natCast], by omega⟩
end Go.Proofs.YtmpelpmhbadjoaaGreatDoor.Rtx
