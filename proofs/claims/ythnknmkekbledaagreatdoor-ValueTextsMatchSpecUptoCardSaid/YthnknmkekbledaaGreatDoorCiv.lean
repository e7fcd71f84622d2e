/- The walks of 'civil', 'Civil' and 'Weekday' of both packages. Condition: 'civil' for days in the range. -/
import Derived.Test.YthnknmkekbledaaGreatDoorDay
namespace Go.Proofs.YthnknmkekbledaaGreatDoor
open Go.RowKit

theorem num_bd (y m d : Int) (h0 : 1600 ≤ y) (h1 : y ≤ 2400) (d0 : 0 ≤ d) (d1 : d ≤ 40) : -200000 ≤ Cal.num y m d ∧ Cal.num y m d ≤ 200000 := by
  have := Cal.base_bd y h0 h1
  have := Cal.cum_bd y m
  unfold Cal.num
  omega
theorem num_one (y m : Int) : Cal.num y m 1 = Cal.base y + Cal.cum y m := by unfold Cal.num; omega
theorem num_11 (y : Int) : Cal.num y 1 1 = Cal.base y := by unfold Cal.num; rw [Cal.cum_one]; omega
theorem ret_tup4 {a b c d a' b' c' d' : Int} (h1 : a = a') (h2 : b = b') (h3 : c = c') (h4 : d = d') : Ending.returned (.tuple #[.int .i64 a, .int .i64 b, .int .i64 c, .int .i64 d]) = .returned (.tuple #[.int .i64 a', .int .i64 b', .int .i64 c', .int .i64 d']) := by rw [h1, h2, h3, h4]

set_option maxHeartbeats 800000 in
theorem civil_any (n : Int) (w : World) (h1 : -25567 ≤ n) (h2 : n ≤ 84005) :
    Calls Tryz.prog 27 #[.int .i64 n] w fun e w' => e = .returned (.tuple #[.int .i64 (Cal.cy n), .int .i64 (Cal.cm n), .int .i64 (Cal.cd n)]) ∧ w = w' := by
  obtain ⟨g1, g2, g3⟩ := Cal.guess_ok h1 h2
  have main : ∀ g : Int, Cal.base g ≤ n → 1899 ≤ g → g ≤ 2199 → Cal.guess n = g → Calls Tryz.prog 27 #[.int .i64 n] w fun e w' => e = .returned (.tuple #[.int .i64 (Cal.cy n), .int .i64 (Cal.cm n), .int .i64 (Cal.cd n)]) ∧ w = w' := by
    intro g g1 g2 g3 hg
    have hq1 := Cal.tdiv_bd h1 h2
    obtain ⟨q1, q2, q3, q4⟩ := hq1
    have HG := Lib.hid hg
    clear hg
    by_cases hn : n < 0
    all_goals
      have HE := Lib.hid HG.out
      unfold Cal.guess at HE
      go_enter Tryz.func27, Tryz.ntmps27
      go_wp2
      go_loop [2] (fun t => ∃ y : Int, Cal.base y ≤ n ∧ 1899 ≤ y ∧ y ≤ 2199 ∧ t = .int .i64 y) (fun t => (2200 - intOf t).toNat)
      case atStart =>
        refine ⟨g, g1, g2, g3, ?_⟩
        rw [← HE.out]
        first | rw [if_pos hn] | rw [if_neg (by omega)]
      case round =>
        obtain ⟨y, hb, y1, y2, rfl⟩ := hrel
        have e11 := num_11 (y + 1)
        have nb := num_bd (y + 1) 1 1 (by omega) (by omega) (by omega) (by omega)
        obtain ⟨nb1, nb2⟩ := nb
        by_cases hc : Cal.base (y + 1) ≤ n
        · have hc' : Cal.num (y + 1) 1 1 ≤ n := by omega
          have y3 : y + 1 ≤ 2199 := by
            by_cases h : y + 1 ≤ 2199
            · exact h
            · have := Cal.base_2200
              have := Cal.base_mono (show 2200 ≤ y + 1 by omega)
              omega
          clear e11
          go_wp2_with (go_at_call 51; refine (number_any _ _ _ _ (by omega) (by omega) (by omega) (by omega) (by omega) (by omega)).mono ?_; rintro e w' ⟨rfl, rfl⟩)
          go_round
          case rel => exact ⟨y + 1, hc, by omega, y3, rfl⟩
          case measure => simp [intOf]; omega
        · have hc' : n < Cal.num (y + 1) 1 1 := by omega
          have hs := Cal.base_succ y
          have hs' : n < Cal.base y + Cal.yd y := by omega
          clear e11 hs hc
          go_wp2_with (go_at_call 51; refine (number_any _ _ _ _ (by omega) (by omega) (by omega) (by omega) (by omega) (by omega)).mono ?_; rintro e w' ⟨rfl, rfl⟩)
          go_loop [3] (fun t => ∃ m : Int, 1 ≤ m ∧ m ≤ 12 ∧ t = .int .i64 m ∧ Cal.base y + Cal.cum y m ≤ n) (fun t => (12 - intOf t).toNat)
          case atStart => exact ⟨1, by omega, by omega, rfl, by rw [Cal.cum_one]; omega⟩
          case round =>
            obtain ⟨m, m1, m2, rfl, hm⟩ := hrel
            have en := num_one y (m + 1)
            have nb := num_bd y (m + 1) 1 (by omega) (by omega) (by omega) (by omega)
            obtain ⟨nb3, nb4⟩ := nb
            have nb' := num_bd y m 1 (by omega) (by omega) (by omega) (by omega)
            obtain ⟨nb5, nb6⟩ := nb'
            by_cases hd : m < 12 ∧ Cal.base y + Cal.cum y (m + 1) ≤ n
            · obtain ⟨hd1, hd2⟩ := hd
              have hd3 : Cal.num y (m + 1) 1 ≤ n := by omega
              clear en
              go_wp2_with (go_at_call 51; refine (number_any _ _ _ _ (by omega) (by omega) (by omega) (by omega) (by omega) (by omega)).mono ?_; rintro e w' ⟨rfl, rfl⟩)
              go_round
              case rel => exact ⟨m + 1, by omega, by omega, rfl, hd2⟩
              case measure => simp [intOf]; omega
            · have hv : n < Cal.base y + Cal.cum y m + Cal.dim y m := by
                by_cases h12 : m = 12
                · have := Cal.cum_succ y 12 (by omega) (by omega)
                  have h13 := Cal.cum_13 y
                  subst h12
                  simp only [show (12 : Int) + 1 = 13 from rfl] at *
                  omega
                · have := Cal.cum_succ y m m1 m2
                  omega
              have hciv := Cal.civil_of hm hv m1 m2
              have en1 := num_one y m
              have HR : Hid (Cal.cy n = y ∧ Cal.cm n = m ∧ Cal.cd n = n - Cal.num y m 1 + 1) := ⟨hciv.cy, hciv.cm, by rw [hciv.cd, en1]⟩
              have hd4 : m < 12 → n < Cal.num y (m + 1) 1 := fun h => by omega
              clear hd en en1 hciv
              by_cases h12 : m < 12
              all_goals
                first | have hd5 := hd4 h12 | skip
                clear hd4
                go_wp2_with (go_at_call 51; refine (number_any _ _ _ _ (by omega) (by omega) (by omega) (by omega) (by omega) (by omega)).mono ?_; rintro e w' ⟨rfl, rfl⟩)
                go_ret3
                exact ⟨ret_tup3 HR.out.1.symm HR.out.2.1.symm HR.out.2.2.symm, rfl⟩
  exact main _ g1 g2 g3 rfl

theorem wd_eq {n : Int} (h1 : -25567 ≤ n) (h2 : n ≤ 84005) : ((n + 3).tmod 7 + 7) % 7 = (n + 3) % 7 ∧ -7 < (n + 3).tmod 7 ∧ (n + 3).tmod 7 < 7 := by
  by_cases hn : n + 3 < 0
  · obtain ⟨j, hj⟩ : ∃ j : Nat, n + 3 = -(j : Int) := ⟨(n + 3).natAbs, by omega⟩
    rw [hj, Int.neg_tmod, Int.tmod_eq_emod_of_nonneg (by omega)]
    omega
  · rw [Int.tmod_eq_emod_of_nonneg (by omega)]
    omega
theorem RCivil_off (n : Int) (w : World) (h : n < -25567 ∨ 84005 < n) :
    Calls Tryz.prog 16 #[.int .i64 n] w fun e w' => e = .returned (.tuple #[.int .i64 0, .int .i64 0, .int .i64 0, .int .i64 1]) ∧ w = w' := by
  have b1 : outB n (-25567) 84005 = true := outB_true (by omega)
  clear h
  go_enter Tryz.func16, Tryz.ntmps16
  go_wp2_with (go_at_call 29; refine (within_any _ _ _ _).mono ?_; rintro e w' ⟨rfl, rfl⟩)
  refine bodyPost_ret (results_tmp4 rfl _ _ _) rfl ?_
  exact ⟨rfl, rfl⟩
set_option maxHeartbeats 800000 in
theorem RCivil_in (n : Int) (w : World) (h1 : -25567 ≤ n) (h2 : n ≤ 84005) :
    Calls Tryz.prog 16 #[.int .i64 n] w fun e w' => e = .returned (.tuple #[.int .i64 (Cal.cy n), .int .i64 (Cal.cm n), .int .i64 (Cal.cd n), .int .i64 0]) ∧ w = w' := by
  have b1 : outB n (-25567) 84005 = false := outB_false (by omega) (by omega)
  go_enter Tryz.func16, Tryz.ntmps16
  go_wp2_with (go_at_call 29; refine (within_any _ _ _ _).mono ?_; rintro e w' ⟨rfl, rfl⟩)
  clear b1
  go_loop [6, 7] (fun t r => ∃ y : Int, 1900 ≤ y ∧ y ≤ 2199 ∧ 0 ≤ n - Cal.base y ∧ t = .int .i64 y ∧ r = .int .i64 (n - Cal.base y)) (fun t _ => (2200 - intOf t).toNat)
  case atStart =>
    have hb := Cal.base_1900
    exact ⟨1900, by omega, by omega, by omega, rfl, by rw [hb]; go_num⟩
  case round =>
    obtain ⟨y, y1, y2, hr, rfl, rfl⟩ := hrel
    have yb := Cal.base_bd y (by omega) (by omega)
    obtain ⟨yb1, yb2⟩ := yb
    have ydb := Cal.yd_pos y
    obtain ⟨ydb1, ydb2⟩ := ydb
    have hs := Cal.base_succ y
    have HS := Lib.hid hs
    clear hs
    by_cases hc : Cal.yd y ≤ n - Cal.base y
    · have y3 : y + 1 ≤ 2199 := by
        have := HS.out
        by_cases h : y + 1 ≤ 2199
        · exact h
        · have := Cal.base_2200
          have := Cal.base_mono (show 2200 ≤ y + 1 by omega)
          omega
      go_wp2_with (go_at_call 34; refine (yearDays_any _ _ (by omega) (by omega)).mono ?_; rintro e w' ⟨rfl, rfl⟩)
      go_round
      case rel => exact ⟨y + 1, by omega, y3, by rw [HS.out]; omega, rfl, by rw [HS.out, show n - (Cal.base y + Cal.yd y) = n - Cal.base y - Cal.yd y from by omega]⟩
      case measure => simp [intOf]; omega
    · go_wp2_with (go_at_call 34; refine (yearDays_any _ _ (by omega) (by omega)).mono ?_; rintro e w' ⟨rfl, rfl⟩)
      go_loop [7, 8] (fun r t => ∃ m : Int, 1 ≤ m ∧ m ≤ 12 ∧ t = .int .i64 m ∧ 0 ≤ n - Cal.base y - Cal.cum y m ∧ r = .int .i64 (n - Cal.base y - Cal.cum y m)) (fun _ t => (12 - intOf t).toNat)
      case atStart => exact ⟨1, by omega, by omega, rfl, by rw [Cal.cum_one]; omega, by rw [Cal.cum_one]; simp⟩
      case round =>
        obtain ⟨m, m1, m2, rfl, hm, rfl⟩ := hrel
        have cb := Cal.cum_bd y m
        have db := Cal.dim_bd y m
        obtain ⟨cb1, cb2⟩ := cb
        obtain ⟨db1, db2⟩ := db
        have CS := Lib.hid (Cal.cum_succ y m m1 m2)
        by_cases hd : Cal.dim y m ≤ n - Cal.base y - Cal.cum y m
        · have m3 : m + 1 ≤ 12 := by
            by_cases h : m = 12
            · subst h
              have := CS.out
              have h13 := Cal.cum_13 y
              simp only [show (12 : Int) + 1 = 13 from rfl] at *
              omega
            · omega
          go_wp2_with (go_at_call 35; refine (monthDays_any _ _ _ (by omega) (by omega)).mono ?_; rintro e w' ⟨rfl, rfl⟩)
          go_round
          case rel => exact ⟨m + 1, by omega, m3, rfl, by rw [CS.out]; omega, by rw [CS.out, show n - Cal.base y - (Cal.cum y m + Cal.dim y m) = n - Cal.base y - Cal.cum y m - Cal.dim y m from by omega]⟩
          case measure => simp [intOf]; omega
        · have hciv := Cal.civil_of (n := n) (y := y) (m := m) (by omega) (by omega) m1 m2
          have HR : Hid (Cal.cy n = y ∧ Cal.cm n = m ∧ Cal.cd n = n - Cal.base y - Cal.cum y m + 1) := ⟨hciv.cy, hciv.cm, by rw [hciv.cd]; omega⟩
          clear hciv
          go_wp2_with (go_at_call 35; refine (monthDays_any _ _ _ (by omega) (by omega)).mono ?_; rintro e w' ⟨rfl, rfl⟩)
          refine bodyPost_ret (results_tmp4 rfl _ _ _) rfl ?_
          exact ⟨ret_tup4 HR.out.1.symm HR.out.2.1.symm HR.out.2.2.symm rfl, rfl⟩
end Go.Proofs.YthnknmkekbledaaGreatDoor
