/- Rounding of ratios: what Rounded, Decimal and Exact compute, over the rationals. The plain mathematics: no program in sight. -/
import Derived.Test.YtmpelpmhbadjoaaGreatDoorRat
namespace Go.Proofs.YtmpelpmhbadjoaaGreatDoor.Rtx
open Limb Dig

/-- N / y to the nearest, halves up -/
def rndN (N y : Nat) : Nat := (N * 2 + y) / (y * 2)
theorem rnd_ref (N y : Nat) (hy : 0 < y) : (y ≤ N % y + N % y → rndN N y = N / y + 1) ∧ (N % y + N % y < y → rndN N y = N / y) := by
  have e := Nat.div_add_mod N y
  have hl := Nat.mod_lt N hy
  obtain ⟨a, ha⟩ : ∃ a, N / y = a := ⟨_, rfl⟩
  obtain ⟨b, hb⟩ : ∃ b, N % y = b := ⟨_, rfl⟩
  rw [ha, hb] at e
  rw [hb] at hl
  rw [ha, hb]
  have hN : N * 2 + y = (y * 2) * a + (b * 2 + y) := by
    rw [← e, Nat.add_mul, Nat.mul_right_comm]; omega
  have h2 : 0 < y * 2 := by omega
  unfold rndN
  rw [hN, Nat.mul_add_div h2]
  constructor
  · intro h
    rw [show (b * 2 + y) / (y * 2) = 1 from (Nat.div_eq_iff h2).2 ⟨by omega, by omega⟩]
  · intro h
    rw [Nat.div_eq_of_lt (by omega), Nat.add_zero]
def numR (a : R) : Nat := digVal (cutN a.n).1
def denR (a : R) : Nat := digVal a.d
def negR (a : R) : Bool := (cutN a.n).2
def scaleR (a : R) (n : Nat) : Nat := rndN (numR a * 10 ^ n) (denR a)
def negS (a : R) (n : Nat) : Bool := negR a && decide (0 < scaleR a n)
open Classical in
noncomputable def rndF (a : R) (n : Int) : Nat := if fltR a ≠ 0 then fltR a else if n < 0 ∨ 20 < n then 1 else 0
def rndQ (a : R) (n : Nat) : Rat := ratQ (negS a n) (scaleR a n) (10 ^ n)
noncomputable def roundR (a : R) (n : Int) : R × Nat := if rndF a n ≠ 0 then (noR, rndF a n) else outR (rndQ a n.toNat)
/-- the text of q parts of 10 to the power of n -/
def padT (q n : Nat) : List UInt8 := zeros (n + 1 - (decS q).length) ++ decS q
def putT (s : List UInt8) (n : Nat) : List UInt8 := if 0 < n then s.take (s.length - n) ++ [46] ++ s.drop (s.length - n) else s
def decT (neg : Bool) (q n : Nat) : List UInt8 := (if neg then [45] else []) ++ putT (padT q n) n
noncomputable def decR (a : R) (n : Int) : List UInt8 × Nat :=
  if rndF a n ≠ 0 then ([], rndF a n) else if bigR (rndQ a n.toNat) then ([], 2) else (decT (negS a n.toNat) (scaleR a n.toNat) n.toNat, 0)
theorem rndF_flt {a : R} {n : Int} (h : fltR a ≠ 0) : rndF a n = fltR a := if_pos h
theorem rndF_out {a : R} {n : Int} (h : fltR a = 0) (hn : n < 0 ∨ 20 < n) : rndF a n = 1 := by unfold rndF; rw [if_neg (by simp [h]), if_pos hn]
theorem rndF_in {a : R} {n : Int} (h : fltR a = 0) (hn : 0 ≤ n) (hn' : n ≤ 20) : rndF a n = 0 := by unfold rndF; rw [if_neg (by simp [h]), if_neg (by omega)]
theorem roundR_no {a : R} {n : Int} (h : rndF a n ≠ 0) : roundR a n = (noR, rndF a n) := if_pos h
theorem roundR_ok {a : R} {n : Int} (h : rndF a n = 0) : roundR a n = outR (rndQ a n.toNat) := if_neg (by simp [h])
theorem digVal_one_zeros (n : Nat) : digVal (49 :: zeros n) = 10 ^ n := by
  induction n with
  | zero => rfl
  | succ n ih =>
    have e : zeros (n + 1) = zeros n ++ [48] := by unfold zeros; rw [List.replicate_succ']
    have e2 : (49 :: zeros (n + 1)) = (49 :: zeros n) ++ [48] := by rw [e]; rfl
    rw [e2]
    unfold digVal at ih ⊢
    rw [List.foldl_append, ih]
    simp [Nat.pow_succ]
end Go.Proofs.YtmpelpmhbadjoaaGreatDoor.Rtx
