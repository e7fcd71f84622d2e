/- The walks of 'civil', 'Civil' and 'Weekday' of both packages. Condition: 'civil' for days in the range. -/
import Derived.Test.YthnknmkekbledaaDoorDay
namespace Go.Proofs.YthnknmkekbledaaDoor
open Go.RowKit

theorem num_bd (y m d : Int) (h0 : 1600 ≤ y) (h1 : y ≤ 2400) (d0 : 0 ≤ d) (d1 : d ≤ 40) : -200000 ≤ Cal.num y m d ∧ Cal.num y m d ≤ 200000 := by
  have := Cal.base_bd y h0 h1
  have := Cal.cum_bd y m
  unfold Cal.num
  omega
theorem num_one (y m : Int) : Cal.num y m 1 = Cal.base y + Cal.cum y m := by unfold Cal.num; omega
theorem num_11 (y : Int) : Cal.num y 1 1 = Cal.base y := by unfold Cal.num; rw [Cal.cum_one]; omega
theorem ret_tup4 {a b c d a' b' c' d' : Int} (h1 : a = a') (h2 : b = b') (h3 : c = c') (h4 : d = d') : Ending.returned (.tuple #[.int .i64 a, .int .i64 b, .int .i64 c, .int .i64 d]) = .returned (.tuple #[.int .i64 a', .int .i64 b', .int .i64 c', .int .i64 d']) := by rw [h1, h2, h3, h4]

set_option maxHeartbeats 800000 in
theorem civil_any (n : Int) (w : World) (h1 : -25567 ≤ n) (h2 : n ≤ 84005) :
    Calls Tryd.prog 18 #[.int .i64 n] w fun e w' => e = .returned (.tuple #[.int .i64 (Cal.cy n), .int .i64 (Cal.cm n), .int .i64 (Cal.cd n)]) ∧ w = w' := by
  obtain ⟨g1, g2, g3⟩ := Cal.guess_ok h1 h2
  have main : ∀ g : Int, Cal.base g ≤ n → 1899 ≤ g → g ≤ 2199 → Cal.guess n = g → Calls Tryd.prog 18 #[.int .i64 n] w fun e w' => e = .returned (.tuple #[.int .i64 (Cal.cy n), .int .i64 (Cal.cm n), .int .i64 (Cal.cd n)]) ∧ w = w' := by
    intro g g1 g2 g3 hg
    have hq1 := Cal.tdiv_bd h1 h2
    obtain ⟨q1, q2, q3, q4⟩ := hq1
    have HG := Lib.hid hg
    clear hg
    by_cases hn : n < 0
    all_goals
      have HE := Lib.hid HG.out
      unfold Cal.guess at HE
      go_enter Tryd.func18, Tryd.ntmps18
      go_wp2
      go_loop [2] (fun t => ∃ y : Int, Cal.base y ≤ n ∧ 1899 ≤ y ∧ y ≤ 2199 ∧ t = .int .i64 y) (fun t => (2200 - intOf t).toNat)
      case atStart =>
        refine ⟨g, g1, g2, g3, ?_⟩
        rw [← HE.out]
        first | rw [if_pos hn] | rw [if_neg (by omega)]
      case round =>
        obtain ⟨y, hb, y1, y2, rfl⟩ := hrel
        have e11 := num_11 (y + 1)
        have nb := num_bd (y + 1) 1 1 (by omega) (by omega) (by omega) (by omega)
        obtain ⟨nb1, nb2⟩ := nb
        by_cases hc : Cal.base (y + 1) ≤ n
        · have hc' : Cal.num (y + 1) 1 1 ≤ n := by omega
          have y3 : y + 1 ≤ 2199 := by
            by_cases h : y + 1 ≤ 2199
            · exact h
            · have := Cal.base_2200
              have := Cal.base_mono (show 2200 ≤ y + 1 by omega)
              omega
          clear e11
          go_wp2_with (go_at_call 30; refine (number_any _ _ _ _ (by omega) (by omega) (by omega) (by omega) (by omega) (by omega)).mono ?_; rintro e w' ⟨rfl, rfl⟩)
          go_round
          case rel => exact ⟨y + 1, hc, by omega, y3, rfl⟩
          case measure => simp [intOf]; omega
        · have hc' : n < Cal.num (y + 1) 1 1 := by omega
          have hs := Cal.base_succ y
          have hs' : n < Cal.base y + Cal.yd y := by omega
          clear e11 hs hc
          go_wp2_with (go_at_call 30; refine (number_any _ _ _ _ (by omega) (by omega) (by omega) (by omega) (by omega) (by omega)).mono ?_; rintro e w' ⟨rfl, rfl⟩)
          go_loop [3] (fun t => ∃ m : Int, 1 ≤ m ∧ m ≤ 12 ∧ t = .int .i64 m ∧ Cal.base y + Cal.cum y m ≤ n) (fun t => (12 - intOf t).toNat)
          case atStart => exact ⟨1, by omega, by omega, rfl, by rw [Cal.cum_one]; omega⟩
          case round =>
            obtain ⟨m, m1, m2, rfl, hm⟩ := hrel
            have en := num_one y (m + 1)
            have nb := num_bd y (m + 1) 1 (by omega) (by omega) (by omega) (by omega)
            obtain ⟨nb3, nb4⟩ := nb
            have nb' := num_bd y m 1 (by omega) (by omega) (by omega) (by omega)
            obtain ⟨nb5, nb6⟩ := nb'
            by_cases hd : m < 12 ∧ Cal.base y + Cal.cum y (m + 1) ≤ n
            · obtain ⟨hd1, hd2⟩ := hd
              have hd3 : Cal.num y (m + 1) 1 ≤ n := by omega
              clear en
              go_wp2_with (go_at_call 30; refine (number_any _ _ _ _ (by omega) (by omega) (by omega) (by omega) (by omega) (by omega)).mono ?_; rintro e w' ⟨rfl, rfl⟩)
              go_round
              case rel => exact ⟨m + 1, by omega, by omega, rfl, hd2⟩
              case measure => simp [intOf]; omega
            · have hv : n < Cal.base y + Cal.cum y m + Cal.dim y m := by
                by_cases h12 : m = 12
                · have := Cal.cum_succ y 12 (by omega) (by omega)
                  have h13 := Cal.cum_13 y
                  subst h12
                  simp only [show (12 : Int) + 1 = 13 from rfl] at *
                  omega
                · have := Cal.cum_succ y m m1 m2
                  omega
              have hciv := Cal.civil_of hm hv m1 m2
              have en1 := num_one y m
              have HR : Hid (Cal.cy n = y ∧ Cal.cm n = m ∧ Cal.cd n = n - Cal.num y m 1 + 1) := ⟨hciv.cy, hciv.cm, by rw [hciv.cd, en1]⟩
              have hd4 : m < 12 → n < Cal.num y (m + 1) 1 := fun h => by omega
              clear hd en en1 hciv
              by_cases h12 : m < 12
              all_goals
                first | have hd5 := hd4 h12 | skip
                clear hd4
                go_wp2_with (go_at_call 30; refine (number_any _ _ _ _ (by omega) (by omega) (by omega) (by omega) (by omega) (by omega)).mono ?_; rintro e w' ⟨rfl, rfl⟩)
                go_ret3
                exact ⟨ret_tup3 HR.out.1.symm HR.out.2.1.symm HR.out.2.2.symm, rfl⟩
  exact main _ g1 g2 g3 rfl

theorem wd_eq {n : Int} (h1 : -25567 ≤ n) (h2 : n ≤ 84005) : ((n + 3).tmod 7 + 7) % 7 = (n + 3) % 7 ∧ -7 < (n + 3).tmod 7 ∧ (n + 3).tmod 7 < 7 := by
  by_cases hn : n + 3 < 0
  · obtain ⟨j, hj⟩ : ∃ j : Nat, n + 3 = -(j : Int) := ⟨(n + 3).natAbs, by omega⟩
    rw [hj, Int.neg_tmod, Int.tmod_eq_emod_of_nonneg (by omega)]
    omega
  · rw [Int.tmod_eq_emod_of_nonneg (by omega)]
    omega
end Go.Proofs.YthnknmkekbledaaDoor
