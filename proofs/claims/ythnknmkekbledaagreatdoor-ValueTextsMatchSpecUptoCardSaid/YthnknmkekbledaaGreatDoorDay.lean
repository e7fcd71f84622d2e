/- The walks of the functions of days, in both packages. Conditions: years from 0 to 10000 (leap), 1600 to 2400 (number). -/
import Derived.Test.YthnknmkekbledaaGreatDoorChk0
import Derived.Test.YthnknmkekbledaaGreatDoorCal
namespace Go.Proofs.YthnknmkekbledaaGreatDoor
open Go.RowKit

theorem ret_tup3 {a b c a' b' c' : Int} (h1 : a = a') (h2 : b = b') (h3 : c = c') : Ending.returned (.tuple #[.int .i64 a, .int .i64 b, .int .i64 c]) = .returned (.tuple #[.int .i64 a', .int .i64 b', .int .i64 c']) := by rw [h1, h2, h3]

theorem leap_any (y : Int) (w : World) (h0 : 0 ≤ y) (h1 : y ≤ 10000) :
    Calls Tryz.prog 102 #[.int .i64 y] w fun e w' => e = .returned (.bool (Cal.lp y)) ∧ w = w' := by
  go_enter Tryz.func102, Tryz.ntmps102
  go_wp2
  all_goals (go_ret; exact ⟨ret_bool (by simp_all [Cal.lp, Bool.beq_eq_decide_eq]), rfl⟩)

theorem rleap_any (y : Int) (w : World) (h0 : 0 ≤ y) (h1 : y ≤ 10000) :
    Calls Tryz.prog 63 #[.int .i64 y] w fun e w' => e = .returned (.bool (Cal.lp y)) ∧ w = w' := by
  go_enter Tryz.func63, Tryz.ntmps63
  go_wp2
  all_goals (go_ret; exact ⟨ret_bool (by simp_all [Cal.lp, Bool.beq_eq_decide_eq, bne]), rfl⟩)

theorem daysOf_any (y m : Int) (w : World) (h0 : 0 ≤ y) (h1 : y ≤ 10000) :
    Calls Tryz.prog 77 #[.int .i64 y, .int .i64 m] w fun e w' => e = .returned (.int .i64 (Cal.dim y m)) ∧ w = w' := by
  go_enter Tryz.func77, Tryz.ntmps77
  go_wp2_with (go_at_call 102; refine (leap_any _ _ h0 h1).mono ?_; rintro e w' ⟨rfl, rfl⟩)
  all_goals (go_ret; exact ⟨ret_int (by simp_all [Cal.dim]), rfl⟩)

theorem monthDays_any (y m : Int) (w : World) (h0 : 0 ≤ y) (h1 : y ≤ 10000) :
    Calls Tryz.prog 35 #[.int .i64 y, .int .i64 m] w fun e w' => e = .returned (.int .i64 (Cal.dim y m)) ∧ w = w' := by
  go_enter Tryz.func35, Tryz.ntmps35
  go_wp2_with (go_at_call 63; refine (rleap_any _ _ h0 h1).mono ?_; rintro e w' ⟨rfl, rfl⟩)
  all_goals (go_ret; exact ⟨ret_int (by simp_all [Cal.dim]), rfl⟩)

theorem yearDays_any (y : Int) (w : World) (h0 : 0 ≤ y) (h1 : y ≤ 10000) :
    Calls Tryz.prog 34 #[.int .i64 y] w fun e w' => e = .returned (.int .i64 (Cal.yd y)) ∧ w = w' := by
  go_enter Tryz.func34, Tryz.ntmps34
  go_wp2_with (go_at_call 63; refine (rleap_any _ _ h0 h1).mono ?_; rintro e w' ⟨rfl, rfl⟩)
  all_goals (go_ret; exact ⟨ret_int (by simp_all [Cal.yd]), rfl⟩)

theorem number_any (y m d : Int) (w : World) (h0 : 1600 ≤ y) (h1 : y ≤ 2400) (m1 : 1 ≤ m) (m2 : m ≤ 12) (d0 : 0 ≤ d) (d1 : d ≤ 40) :
    Calls Tryz.prog 51 #[.int .i64 y, .int .i64 m, .int .i64 d] w fun e w' => e = .returned (.int .i64 (Cal.num y m d)) ∧ w = w' := by
  have hb := Cal.base_bd y h0 h1
  go_enter Tryz.func51, Tryz.ntmps51
  go_wp2
  go_loop [9, 8] (fun k s => ∃ j : Int, 1 ≤ j ∧ j ≤ m ∧ k = .int .i64 j ∧ s = .int .i64 (Cal.base y + Cal.cum y j)) (fun k _ => (m - intOf k).toNat)
  case atStart => exact ⟨1, by omega, by omega, rfl, by rw [Cal.cum_one]; unfold Cal.base; simp⟩
  case round =>
    obtain ⟨j, hj1, hj2, rfl, rfl⟩ := hrel
    have cb := Cal.cum_bd y j
    have db := Cal.dim_bd y j
    by_cases hlt : j < m
    · have cs := Cal.cum_succ y j hj1 (by omega)
      have CS := Lib.hid cs
      clear cs
      go_wp2_with (go_at_call 77; refine (daysOf_any _ _ _ (by omega) (by omega)).mono ?_; rintro e w' ⟨rfl, rfl⟩)
      go_round
      case rel => exact ⟨j + 1, by omega, by omega, rfl, by rw [CS.out, Int.add_assoc]⟩
      case measure => simp [intOf]; omega
    · obtain rfl : j = m := by omega
      go_wp2
      go_ret
      exact ⟨ret_int (by unfold Cal.num; rfl), rfl⟩
end Go.Proofs.YthnknmkekbledaaGreatDoor
