/- The walks of the small callees of Check: 'outside', 'within', 'limits', 'inRange', 'unused'. No condition. -/
import Derived.Test.YthnknmkekbledaaGreatDoorV0
namespace Go.Proofs.YthnknmkekbledaaGreatDoor
open Go.RowKit

def outB (n lo hi : Int) : Bool := decide (n < lo) || decide (hi < n)
theorem outB_true {n lo hi : Int} (h : n < lo ∨ hi < n) : outB n lo hi = true := by simp [outB]; omega
theorem outB_false {n lo hi : Int} (h : lo ≤ n) (h' : n ≤ hi) : outB n lo hi = false := by simp [outB]; omega

theorem outside_any (a b c : Int) (w : World) :
    Calls Tryz.prog 22 #[.int .i64 a, .int .i64 b, .int .i64 c] w fun e w' => e = .returned (.bool (outB a b c)) ∧ w = w' := by
  by_cases h1 : a < b
  · have HR := Lib.hid (outB_true (.inl h1) : outB a b c = true)
    go_enter Tryz.func22, Tryz.ntmps22
    go_wp2
    go_ret
    exact ⟨ret_bool (by rw [HR.out]), rfl⟩
  · by_cases h2 : c < a
    · have HR := Lib.hid (outB_true (.inr h2) : outB a b c = true)
      go_enter Tryz.func22, Tryz.ntmps22
      go_wp2
      go_ret
      exact ⟨ret_bool (by rw [HR.out]), rfl⟩
    · have HR := Lib.hid (outB_false (by omega) (by omega) : outB a b c = false)
      go_enter Tryz.func22, Tryz.ntmps22
      go_wp2
      go_ret
      exact ⟨ret_bool (by rw [HR.out]), rfl⟩
theorem within_any (a b c : Int) (w : World) :
    Calls Tryz.prog 29 #[.int .i64 a, .int .i64 b, .int .i64 c] w fun e w' => e = .returned (.bool (!outB a b c)) ∧ w = w' := by
  by_cases h1 : a < b
  · have HR := Lib.hid (outB_true (.inl h1) : outB a b c = true)
    go_enter Tryz.func29, Tryz.ntmps29
    go_wp2
    go_ret
    exact ⟨ret_bool (by rw [HR.out]; simp; try omega), rfl⟩
  · by_cases h2 : c < a
    · have HR := Lib.hid (outB_true (.inr h2) : outB a b c = true)
      go_enter Tryz.func29, Tryz.ntmps29
      go_wp2
      go_ret
      exact ⟨ret_bool (by rw [HR.out]; simp; try omega), rfl⟩
    · have HR := Lib.hid (outB_false (by omega) (by omega) : outB a b c = false)
      go_enter Tryz.func29, Tryz.ntmps29
      go_wp2
      go_ret
      exact ⟨ret_bool (by rw [HR.out]; simp; try omega), rfl⟩

def loOf (k : Int) : Int := if k = 1 then 1 else if k = 2 then -999999999999999 else if k = 4 then 1 else if k = 6 then -25567 else 0
def hiOf (k : Int) : Int := if k = 1 then 3 else if k = 2 then 999999999999999 else if k = 4 then 999 else if k = 6 then 84005 else if k = 7 then 1 else 0
theorem limits_any (k : Int) (w : World) :
    Calls Tryz.prog 24 #[.int .i64 k] w fun e w' => e = .returned (.tuple #[.int .i64 (loOf k), .int .i64 (hiOf k)]) ∧ w = w' := by
  go_enter Tryz.func24, Tryz.ntmps24
  go_wp2
  all_goals (go_ret2; exact ⟨ret_val (by simp_all [loOf, hiOf]), rfl⟩)

def inB (k n : Int) : Bool := if k = 1 ∨ k = 2 ∨ k = 4 ∨ k = 6 ∨ k = 7 then !outB n (loOf k) (hiOf k) else true
theorem inRange_any (k n : Int) (w : World) :
    Calls Tryz.prog 30 #[.int .i64 k, .int .i64 n] w fun e w' => e = .returned (.bool (inB k n)) ∧ w = w' := by
  go_enter Tryz.func30, Tryz.ntmps30
  go_wp2_with (go_at_call 29; refine (within_any _ _ _ _).mono ?_; rintro e w' ⟨rfl, rfl⟩)
  all_goals (go_ret; exact ⟨ret_bool (by simp_all [inB, loOf, hiOf]), rfl⟩)

def usesB (k : Int) : Bool := !decide (k = 0) && (!decide (k = 3) && !decide (k = 5))
def unusedB (x : Val) : Bool := (!usesB x.k && !decide (x.n = 0)) || ((!decide (x.k = 3) && !decide (x.s.toList = [])) || (!decide (x.k = 5) && !decide (x.l = [])))

set_option maxHeartbeats 1000000 in
theorem unused_any (x : Val) (A : Option Addr) (c : Nat) (w : World) :
    Calls Tryz.prog 23 #[.agg #[.int .i64 x.k, .int .i64 x.n, .string x.s, .slice A x.l.length c]] w
      fun e w' => e = .returned (.bool (unusedB x)) ∧ Below w.heap.size w w' := by
  go_enter Tryz.func23, Tryz.ntmps23
  go_wp2
  all_goals (go_ret; exact ⟨ret_bool (by simp_all [unusedB, usesB, List.length_pos_iff]), (Below.refl _ _).alloc (Nat.le_refl _) _⟩)
end Go.Proofs.YthnknmkekbledaaGreatDoor
