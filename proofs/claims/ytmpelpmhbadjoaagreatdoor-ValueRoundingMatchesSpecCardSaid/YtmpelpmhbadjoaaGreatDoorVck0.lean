/- The walks of the small callees of Check: 'outside', 'within', 'limits', 'inRange', 'unused'. No condition. -/
import Derived.Test.YtmpelpmhbadjoaaGreatDoorRd1
namespace Go.Proofs.YtmpelpmhbadjoaaGreatDoor
open Go.RowKit

structure Val where
  k : Int
  n : Int
  s : ByteArray
  l : List Int
def numV (k : IntKind) (l : List Int) : List Value := l.map (Value.int k)
theorem numV_get (κ : IntKind) (l : List Int) (k : Nat) (u : Value) (h : (numV κ l)[k]? = some u) : ∃ h : k < l.length, u = .int κ l[k] := by
  unfold numV at h
  rw [List.getElem?_map] at h
  rcases hk : l[k]? with _ | x
  · rw [hk] at h; simp at h
  · rw [hk] at h
    simp at h
    obtain ⟨hl, hx⟩ := List.getElem?_eq_some_iff.1 hk
    exact ⟨hl, by rw [hx, h]⟩
theorem numV_len (κ : IntKind) (l : List Int) : (numV κ l).length = l.length := by simp [numV]


theorem within_any (a b c : Int) (w : World) :
    Calls Tryz.prog 79 #[.int .i64 a, .int .i64 b, .int .i64 c] w fun e w' => e = .returned (.bool (!outB a b c)) ∧ w = w' := by
  by_cases h1 : a < b
  · have HR := Lib.hid (outB_true (.inl h1) : outB a b c = true)
    go_enter Tryz.func79, Tryz.ntmps79
    go_wp2
    go_ret
    exact ⟨ret_bool (by rw [HR.out]; simp; try omega), rfl⟩
  · by_cases h2 : c < a
    · have HR := Lib.hid (outB_true (.inr h2) : outB a b c = true)
      go_enter Tryz.func79, Tryz.ntmps79
      go_wp2
      go_ret
      exact ⟨ret_bool (by rw [HR.out]; simp; try omega), rfl⟩
    · have HR := Lib.hid (outB_false (by omega) (by omega) : outB a b c = false)
      go_enter Tryz.func79, Tryz.ntmps79
      go_wp2
      go_ret
      exact ⟨ret_bool (by rw [HR.out]; simp; try omega), rfl⟩

def loOf (k : Int) : Int := if k = 1 then 1 else if k = 2 then -999999999999999 else if k = 4 then 1 else if k = 6 then -25567 else 0
def hiOf (k : Int) : Int := if k = 1 then 3 else if k = 2 then 999999999999999 else if k = 4 then 999 else if k = 6 then 84005 else if k = 7 then 1 else 0
theorem limits_any (k : Int) (w : World) :
    Calls Tryz.prog 78 #[.int .i64 k] w fun e w' => e = .returned (.tuple #[.int .i64 (loOf k), .int .i64 (hiOf k)]) ∧ w = w' := by
  go_enter Tryz.func78, Tryz.ntmps78
  go_wp2
  all_goals (go_ret2; exact ⟨ret_val (by simp_all [loOf, hiOf]), rfl⟩)

def inB (k n : Int) : Bool := if k = 1 ∨ k = 2 ∨ k = 4 ∨ k = 6 ∨ k = 7 then !outB n (loOf k) (hiOf k) else true
theorem inRange_any (k n : Int) (w : World) :
    Calls Tryz.prog 80 #[.int .i64 k, .int .i64 n] w fun e w' => e = .returned (.bool (inB k n)) ∧ w = w' := by
  go_enter Tryz.func80, Tryz.ntmps80
  go_wp2_with (go_at_call 79; refine (within_any _ _ _ _).mono ?_; rintro e w' ⟨rfl, rfl⟩)
  all_goals (go_ret; exact ⟨ret_bool (by simp_all [inB, loOf, hiOf]), rfl⟩)

def usesB (k : Int) : Bool := !decide (k = 0) && (!decide (k = 3) && !decide (k = 5))
def unusedB (x : Val) : Bool := (!usesB x.k && !decide (x.n = 0)) || ((!decide (x.k = 3) && !decide (x.s.toList = [])) || (!decide (x.k = 5) && !decide (x.l = [])))

set_option maxHeartbeats 1000000 in
theorem unused_any (x : Val) (A : Option Addr) (c : Nat) (w : World) :
    Calls Tryz.prog 77 #[.agg #[.int .i64 x.k, .int .i64 x.n, .string x.s, .slice A x.l.length c]] w
      fun e w' => e = .returned (.bool (unusedB x)) ∧ Below w.heap.size w w' := by
  go_enter Tryz.func77, Tryz.ntmps77
  go_wp2
  all_goals (go_ret; exact ⟨ret_bool (by simp_all [unusedB, usesB, List.length_pos_iff]), (Below.refl _ _).alloc (Nat.le_refl _) _⟩)
end Go.Proofs.YtmpelpmhbadjoaaGreatDoor
