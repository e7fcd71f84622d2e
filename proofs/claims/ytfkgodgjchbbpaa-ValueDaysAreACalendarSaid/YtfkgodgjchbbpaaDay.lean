/- The walks of the functions of days, in both packages. Conditions: years from 0 to 10000 (leap), 1600 to 2400 (number). -/
import Derived.Test.YtfkgodgjchbbpaaChk0
import Derived.Test.YtfkgodgjchbbpaaCal
namespace Go.Proofs.Ytfkgodgjchbbpaa
open Go.RowKit

theorem ret_tup3 {a b c a' b' c' : Int} (h1 : a = a') (h2 : b = b') (h3 : c = c') : Ending.returned (.tuple #[.int .i64 a, .int .i64 b, .int .i64 c]) = .returned (.tuple #[.int .i64 a', .int .i64 b', .int .i64 c']) := by rw [h1, h2, h3]

theorem leap_any (y : Int) (w : World) (h0 : 0 ≤ y) (h1 : y ≤ 10000) :
    Calls Try.prog 48 #[.int .i64 y] w fun e w' => e = .returned (.bool (Cal.lp y)) ∧ w = w' := by
  go_enter Try.func48, Try.ntmps48
  go_wp2
  all_goals (go_ret; exact ⟨ret_bool (by simp_all [Cal.lp, Bool.beq_eq_decide_eq, bne]), rfl⟩)

theorem rleap_any (y : Int) (w : World) (h0 : 0 ≤ y) (h1 : y ≤ 10000) :
    Calls Try.prog 49 #[.int .i64 y] w fun e w' => e = .returned (.bool (Cal.lp y)) ∧ w = w' := by
  go_enter Try.func49, Try.ntmps49
  go_wp2
  all_goals (go_ret; exact ⟨ret_bool (by simp_all [Cal.lp, Bool.beq_eq_decide_eq, bne]), rfl⟩)

theorem daysOf_any (y m : Int) (w : World) (h0 : 0 ≤ y) (h1 : y ≤ 10000) :
    Calls Try.prog 35 #[.int .i64 y, .int .i64 m] w fun e w' => e = .returned (.int .i64 (Cal.dim y m)) ∧ w = w' := by
  go_enter Try.func35, Try.ntmps35
  go_wp2_with (go_at_call 48; refine (leap_any _ _ h0 h1).mono ?_; rintro e w' ⟨rfl, rfl⟩)
  all_goals (go_ret; exact ⟨ret_int (by simp_all [Cal.dim]), rfl⟩)

theorem monthDays_any (y m : Int) (w : World) (h0 : 0 ≤ y) (h1 : y ≤ 10000) :
    Calls Try.prog 39 #[.int .i64 y, .int .i64 m] w fun e w' => e = .returned (.int .i64 (Cal.dim y m)) ∧ w = w' := by
  go_enter Try.func39, Try.ntmps39
  go_wp2_with (go_at_call 49; refine (rleap_any _ _ h0 h1).mono ?_; rintro e w' ⟨rfl, rfl⟩)
  all_goals (go_ret; exact ⟨ret_int (by simp_all [Cal.dim]), rfl⟩)

theorem yearDays_any (y : Int) (w : World) (h0 : 0 ≤ y) (h1 : y ≤ 10000) :
    Calls Try.prog 38 #[.int .i64 y] w fun e w' => e = .returned (.int .i64 (Cal.yd y)) ∧ w = w' := by
  go_enter Try.func38, Try.ntmps38
  go_wp2_with (go_at_call 49; refine (rleap_any _ _ h0 h1).mono ?_; rintro e w' ⟨rfl, rfl⟩)
  all_goals (go_ret; exact ⟨ret_int (by simp_all [Cal.yd]), rfl⟩)

theorem number_any (y m d : Int) (w : World) (h0 : 1600 ≤ y) (h1 : y ≤ 2400) (m1 : 1 ≤ m) (m2 : m ≤ 12) (d0 : 0 ≤ d) (d1 : d ≤ 40) :
    Calls Try.prog 37 #[.int .i64 y, .int .i64 m, .int .i64 d] w fun e w' => e = .returned (.int .i64 (Cal.num y m d)) ∧ w = w' := by
  have hb := Cal.base_bd y h0 h1
  go_enter Try.func37, Try.ntmps37
  go_wp2
  go_loop [9, 8] (fun k s => ∃ j : Int, 1 ≤ j ∧ j ≤ m ∧ k = .int .i64 j ∧ s = .int .i64 (Cal.base y + Cal.cum y j)) (fun k _ => (m - intOf k).toNat)
  case atStart => exact ⟨1, by omega, by omega, rfl, by rw [Cal.cum_one]; unfold Cal.base; simp⟩
  case round =>
    obtain ⟨j, hj1, hj2, rfl, rfl⟩ := hrel
    have cb := Cal.cum_bd y j
    have db := Cal.dim_bd y j
    by_cases hlt : j < m
    · have cs := Cal.cum_succ y j hj1 (by omega)
      have CS := Lib.hid cs
      clear cs
      go_wp2_with (go_at_call 35; refine (daysOf_any _ _ _ (by omega) (by omega)).mono ?_; rintro e w' ⟨rfl, rfl⟩)
      go_round
      case rel => exact ⟨j + 1, by omega, by omega, rfl, by rw [CS.out, Int.add_assoc]⟩
      case measure => simp [intOf]; omega
    · obtain rfl : j = m := by omega
      go_wp2
      go_ret
      exact ⟨ret_int (by unfold Cal.num; rfl), rfl⟩
end Go.Proofs.Ytfkgodgjchbbpaa
