/- The walks of 'dayValue', 'Date' and 'Months' of both packages: a Day, or Missing. No condition. -/
import Derived.Test.YthnknmkekbledaaGreatDoorCiv
namespace Go.Proofs.YthnknmkekbledaaGreatDoor
open Go.RowKit

theorem dayValue_in (n : Int) (w : World) (h1 : -25567 ≤ n) (h2 : n ≤ 84005) :
    Calls Tryz.prog 94 #[.int .i64 n] w fun e w' => e = .returned (.agg #[.int .i64 6, .int .i64 n, .string ⟨#[]⟩, .slice none 0 0]) ∧ Below w.heap.size w w' := by
  have b1 : outB n (-25567) 84005 = false := outB_false (by omega) (by omega)
  go_enter Tryz.func94, Tryz.ntmps94
  go_wp2_with (go_at_call 22; refine (outside_any _ _ _ _).mono ?_; rintro e w' ⟨rfl, rfl⟩)
  refine bodyPost_ret (v := .agg #[.int .i64 6, .int .i64 n, .string ⟨#[]⟩, .slice none 0 0]) (by simp [results, Tryz.results94, go_sem]) rfl ⟨rfl, by first | exact (Below.refl _ _).alloc (Nat.le_refl _) _ | exact (((Below.refl _ _).alloc (Nat.le_refl _) _).setCell (Nat.le_refl _) _)⟩
theorem dayValue_off (n : Int) (w : World) (h : n < -25567 ∨ 84005 < n) :
    Calls Tryz.prog 94 #[.int .i64 n] w fun e w' => e = .returned (.agg #[.int .i64 0, .int .i64 0, .string ⟨#[]⟩, .slice none 0 0]) ∧ Below w.heap.size w w' := by
  have b1 : outB n (-25567) 84005 = true := outB_true (by omega)
  clear h
  go_enter Tryz.func94, Tryz.ntmps94
  go_wp2_with (go_at_call 22; refine (outside_any _ _ _ _).mono ?_; rintro e w' ⟨rfl, rfl⟩)
  refine bodyPost_ret (v := .agg #[.int .i64 0, .int .i64 0, .string ⟨#[]⟩, .slice none 0 0]) (by simp [results, Tryz.results94, go_sem]) rfl ⟨rfl, by first | exact (Below.refl _ _).alloc (Nat.le_refl _) _ | exact (((Below.refl _ _).alloc (Nat.le_refl _) _).setCell (Nat.le_refl _) _)⟩

def dk (y m d : Int) : Int := if Cal.okDate y m d = true then 6 else 0
def dn (y m d : Int) : Int := if Cal.okDate y m d = true then Cal.num y m d else 0
theorem okDate_no {y m d : Int} (h : outB y 1800 2300 = true ∨ outB m 1 12 = true ∨ outB d 1 (Cal.dim y m) = true) : Cal.okDate y m d = false := by
  rw [Bool.eq_false_iff]
  intro e
  rw [Cal.okDate_iff] at e
  simp only [outB, Bool.or_eq_true, decide_eq_true_eq] at h
  omega
set_option maxHeartbeats 800000 in
theorem Date_any (y m d : Int) (w : World) :
    Calls Tryz.prog 67 #[.int .i64 y, .int .i64 m, .int .i64 d] w fun e w' => e = .returned (.agg #[.int .i64 (dk y m d), .int .i64 (dn y m d), .string ⟨#[]⟩, .slice none 0 0]) ∧ Below w.heap.size w w' := by
  have stop : Cal.okDate y m d = false → dk y m d = 0 ∧ dn y m d = 0 := fun h => by simp [dk, dn, h]
  by_cases e1 : outB y 1800 2300 = true
  · obtain ⟨z1, z2⟩ := stop (okDate_no (.inl e1))
    rw [z1, z2]
    clear z1 z2 stop
    go_enter Tryz.func67, Tryz.ntmps67
    go_wp2_with (go_at_call 22; refine (outside_any _ _ _ _).mono ?_; rintro e w' ⟨rfl, rfl⟩)
    refine bodyPost_ret (v := .agg #[.int .i64 0, .int .i64 0, .string ⟨#[]⟩, .slice none 0 0]) (by simp [results, Tryz.results67, go_sem]) rfl ⟨rfl, by first | exact (Below.refl _ _).alloc (Nat.le_refl _) _ | exact (((Below.refl _ _).alloc (Nat.le_refl _) _).setCell (Nat.le_refl _) _)⟩
  have e1' : outB y 1800 2300 = false := by simpa using e1
  clear e1
  by_cases e2 : outB m 1 12 = true
  · obtain ⟨z1, z2⟩ := stop (okDate_no (.inr (.inl e2)))
    rw [z1, z2]
    clear z1 z2 stop
    go_enter Tryz.func67, Tryz.ntmps67
    go_wp2_with (go_at_call 22; refine (outside_any _ _ _ _).mono ?_; rintro e w' ⟨rfl, rfl⟩)
    refine bodyPost_ret (v := .agg #[.int .i64 0, .int .i64 0, .string ⟨#[]⟩, .slice none 0 0]) (by simp [results, Tryz.results67, go_sem]) rfl ⟨rfl, by first | exact (Below.refl _ _).alloc (Nat.le_refl _) _ | exact (((Below.refl _ _).alloc (Nat.le_refl _) _).setCell (Nat.le_refl _) _)⟩
  have e2' : outB m 1 12 = false := by simpa using e2
  clear e2
  have hy : 1800 ≤ y ∧ y ≤ 2300 := by simp only [outB, Bool.or_eq_false_iff, decide_eq_false_iff_not] at e1'; omega
  have hm : 1 ≤ m ∧ m ≤ 12 := by simp only [outB, Bool.or_eq_false_iff, decide_eq_false_iff_not] at e2'; omega
  obtain ⟨y1, y2⟩ := hy
  obtain ⟨m1, m2⟩ := hm
  by_cases e3 : outB d 1 (Cal.dim y m) = true
  · obtain ⟨z1, z2⟩ := stop (okDate_no (.inr (.inr e3)))
    rw [z1, z2]
    clear z1 z2 stop
    go_enter Tryz.func67, Tryz.ntmps67
    go_wp2_with (first | (go_at_call 22; refine (outside_any _ _ _ _).mono ?_; rintro e w' ⟨rfl, rfl⟩) | (go_at_call 77; refine (daysOf_any _ _ _ (by omega) (by omega)).mono ?_; rintro e w' ⟨rfl, rfl⟩))
    refine bodyPost_ret (v := .agg #[.int .i64 0, .int .i64 0, .string ⟨#[]⟩, .slice none 0 0]) (by simp [results, Tryz.results67, go_sem]) rfl ⟨rfl, by first | exact (Below.refl _ _).alloc (Nat.le_refl _) _ | exact (((Below.refl _ _).alloc (Nat.le_refl _) _).setCell (Nat.le_refl _) _)⟩
  have e3' : outB d 1 (Cal.dim y m) = false := by simpa using e3
  clear e3
  have hd : 1 ≤ d ∧ d ≤ Cal.dim y m := by simp only [outB, Bool.or_eq_false_iff, decide_eq_false_iff_not] at e3'; omega
  have hd2 := Cal.dim_bd y m
  obtain ⟨d1, d2⟩ := hd
  have d3 : d ≤ 40 := by omega
  have hnr := Cal.num_range m1 m2 d1 d2
  have hok : Cal.okDate y m d = decide (1900 ≤ y ∧ y ≤ 2199) := by
    rw [Bool.eq_iff_iff, Cal.okDate_iff]
    simp only [decide_eq_true_eq]
    constructor
    · exact fun h => h.1
    · exact fun h => ⟨h, ⟨m1, m2⟩, d1, d2⟩
  clear hd2 stop
  by_cases hr : 1900 ≤ y ∧ y ≤ 2199
  · have z1 : dk y m d = 6 := by simp [dk, hok, hr]
    have z2 : dn y m d = Cal.num y m d := by simp [dn, hok, hr]
    obtain ⟨r1, r2⟩ := hnr.2 hr
    rw [z1, z2]
    clear z1 z2 hok hnr hr
    go_enter Tryz.func67, Tryz.ntmps67
    go_wp2_with (first | (go_at_call 22; refine (outside_any _ _ _ _).mono ?_; rintro e w' ⟨rfl, rfl⟩) | (go_at_call 77; refine (daysOf_any _ _ _ (by omega) (by omega)).mono ?_; rintro e w' ⟨rfl, rfl⟩) | (go_at_call 51; refine (number_any _ _ _ _ (by omega) (by omega) (by omega) (by omega) (by omega) (by omega)).mono ?_; rintro e w' ⟨rfl, rfl⟩))
    refine (dayValue_in _ _ r1 r2).mono ?_
    rintro e w1 ⟨rfl, hb1⟩
    obtain ⟨hc, hf⟩ := bcell hb1
    have hz : w.heap.size + 1 ≤ w1.heap.size := by have := hb1.size; simpa using this
    have hbw : Below w.heap.size w w1 := ((Below.refl _ _).alloc (Nat.le_refl _) _).trans (hb1.mono (by simp))
    go_wp2
    refine bodyPost_ret (v := .agg #[.int .i64 6, .int .i64 (Cal.num y m d), .string ⟨#[]⟩, .slice none 0 0]) (by simp [results, Tryz.results67, go_sem, hc]) rfl ⟨rfl, by repeat' (first | exact hbw | exact Nat.le_refl _ | apply Below.setCell)⟩
  · have z1 : dk y m d = 0 := by simp [dk, hok, hr]
    have z2 : dn y m d = 0 := by simp [dn, hok, hr]
    have r1 : Cal.num y m d < -25567 ∨ 84005 < Cal.num y m d := by
      have := mt hnr.1 hr
      omega
    rw [z1, z2]
    clear z1 z2 hok hnr hr
    have R1 := Lib.hid r1
    clear r1
    go_enter Tryz.func67, Tryz.ntmps67
    go_wp2_with (first | (go_at_call 22; refine (outside_any _ _ _ _).mono ?_; rintro e w' ⟨rfl, rfl⟩) | (go_at_call 77; refine (daysOf_any _ _ _ (by omega) (by omega)).mono ?_; rintro e w' ⟨rfl, rfl⟩) | (go_at_call 51; refine (number_any _ _ _ _ (by omega) (by omega) (by omega) (by omega) (by omega) (by omega)).mono ?_; rintro e w' ⟨rfl, rfl⟩))
    refine (dayValue_off _ _ R1.out).mono ?_
    rintro e w1 ⟨rfl, hb1⟩
    obtain ⟨hc, hf⟩ := bcell hb1
    have hz : w.heap.size + 1 ≤ w1.heap.size := by have := hb1.size; simpa using this
    have hbw : Below w.heap.size w w1 := ((Below.refl _ _).alloc (Nat.le_refl _) _).trans (hb1.mono (by simp))
    go_wp2
    refine bodyPost_ret (v := .agg #[.int .i64 0, .int .i64 0, .string ⟨#[]⟩, .slice none 0 0]) (by simp [results, Tryz.results67, go_sem, hc]) rfl ⟨rfl, by repeat' (first | exact hbw | exact Nat.le_refl _ | apply Below.setCell)⟩

set_option maxHeartbeats 800000 in
theorem RDate_any (y m d : Int) (w : World) :
    Calls Tryz.prog 48 #[.int .i64 y, .int .i64 m, .int .i64 d] w fun e w' => e = .returned (.agg #[.int .i64 (dk y m d), .int .i64 (dn y m d), .string ⟨#[]⟩, .slice none 0 0]) ∧ Below w.heap.size w w' := by
  have stop : Cal.okDate y m d = false → dk y m d = 0 ∧ dn y m d = 0 := fun h => by simp [dk, dn, h]
  have no : outB y 1900 2199 = true ∨ outB m 1 12 = true ∨ outB d 1 (Cal.dim y m) = true → Cal.okDate y m d = false := by
    intro h
    rw [Bool.eq_false_iff]
    intro e
    rw [Cal.okDate_iff] at e
    simp only [outB, Bool.or_eq_true, decide_eq_true_eq] at h
    omega
  by_cases e1 : outB y 1900 2199 = true
  · obtain ⟨z1, z2⟩ := stop (no (.inl e1))
    rw [z1, z2]
    clear z1 z2 stop no
    go_enter Tryz.func48, Tryz.ntmps48
    go_wp2_with (go_at_call 29; refine (within_any _ _ _ _).mono ?_; rintro e w' ⟨rfl, rfl⟩)
    refine bodyPost_ret (v := .agg #[.int .i64 0, .int .i64 0, .string ⟨#[]⟩, .slice none 0 0]) (by simp [results, Tryz.results48, go_sem]) rfl ⟨rfl, by first | exact (Below.refl _ _).alloc (Nat.le_refl _) _ | exact (((Below.refl _ _).alloc (Nat.le_refl _) _).setCell (Nat.le_refl _) _)⟩
  have e1' : outB y 1900 2199 = false := by simpa using e1
  clear e1
  by_cases e2 : outB m 1 12 = true
  · obtain ⟨z1, z2⟩ := stop (no (.inr (.inl e2)))
    rw [z1, z2]
    clear z1 z2 stop no
    go_enter Tryz.func48, Tryz.ntmps48
    go_wp2_with (go_at_call 29; refine (within_any _ _ _ _).mono ?_; rintro e w' ⟨rfl, rfl⟩)
    refine bodyPost_ret (v := .agg #[.int .i64 0, .int .i64 0, .string ⟨#[]⟩, .slice none 0 0]) (by simp [results, Tryz.results48, go_sem]) rfl ⟨rfl, by first | exact (Below.refl _ _).alloc (Nat.le_refl _) _ | exact (((Below.refl _ _).alloc (Nat.le_refl _) _).setCell (Nat.le_refl _) _)⟩
  have e2' : outB m 1 12 = false := by simpa using e2
  clear e2
  have hy : 1900 ≤ y ∧ y ≤ 2199 := by simp only [outB, Bool.or_eq_false_iff, decide_eq_false_iff_not] at e1'; omega
  have hm : 1 ≤ m ∧ m ≤ 12 := by simp only [outB, Bool.or_eq_false_iff, decide_eq_false_iff_not] at e2'; omega
  obtain ⟨y1, y2⟩ := hy
  obtain ⟨m1, m2⟩ := hm
  by_cases e3 : outB d 1 (Cal.dim y m) = true
  · obtain ⟨z1, z2⟩ := stop (no (.inr (.inr e3)))
    rw [z1, z2]
    clear z1 z2 stop no
    go_enter Tryz.func48, Tryz.ntmps48
    go_wp2_with (first | (go_at_call 29; refine (within_any _ _ _ _).mono ?_; rintro e w' ⟨rfl, rfl⟩) | (go_at_call 35; refine (monthDays_any _ _ _ (by omega) (by omega)).mono ?_; rintro e w' ⟨rfl, rfl⟩))
    refine bodyPost_ret (v := .agg #[.int .i64 0, .int .i64 0, .string ⟨#[]⟩, .slice none 0 0]) (by simp [results, Tryz.results48, go_sem]) rfl ⟨rfl, by first | exact (Below.refl _ _).alloc (Nat.le_refl _) _ | exact (((Below.refl _ _).alloc (Nat.le_refl _) _).setCell (Nat.le_refl _) _)⟩
  have e3' : outB d 1 (Cal.dim y m) = false := by simpa using e3
  clear e3
  have hd : 1 ≤ d ∧ d ≤ Cal.dim y m := by simp only [outB, Bool.or_eq_false_iff, decide_eq_false_iff_not] at e3'; omega
  have hd2 := Cal.dim_bd y m
  obtain ⟨d1, d2⟩ := hd
  have d3 : d ≤ 40 := by omega
  have hok : Cal.okDate y m d = true := by rw [Cal.okDate_iff]; exact ⟨⟨y1, y2⟩, ⟨m1, m2⟩, d1, d2⟩
  have z1 : dk y m d = 6 := by simp [dk, hok]
  have z2 : dn y m d = Cal.num y m d := by simp [dn, hok]
  rw [z1, z2]
  clear z1 z2 hok stop no hd2 d2
  go_enter Tryz.func48, Tryz.ntmps48
  go_wp2_with (first | (go_at_call 29; refine (within_any _ _ _ _).mono ?_; rintro e w' ⟨rfl, rfl⟩) | (go_at_call 35; refine (monthDays_any _ _ _ (by omega) (by omega)).mono ?_; rintro e w' ⟨rfl, rfl⟩))
  clear e1' e2' e3'
  go_loop [8, 7] (fun k s => ∃ j : Int, 1 ≤ j ∧ j ≤ m ∧ k = .int .i64 j ∧ s = .int .i64 (d - 1 + Cal.cum y j)) (fun k _ => (m - intOf k).toNat)
  case atStart => exact ⟨1, by omega, by omega, rfl, by rw [Cal.cum_one]; simp⟩
  case round =>
    obtain ⟨j, hj1, hj2, rfl, rfl⟩ := hrel
    have cb := Cal.cum_bd y j
    have db := Cal.dim_bd y j
    obtain ⟨cb1, cb2⟩ := cb
    obtain ⟨db1, db2⟩ := db
    by_cases hlt : j < m
    · have CS := Lib.hid (Cal.cum_succ y j hj1 (by omega))
      go_wp2_with (go_at_call 35; refine (monthDays_any _ _ _ (by omega) (by omega)).mono ?_; rintro e w' ⟨rfl, rfl⟩)
      go_round
      case rel => exact ⟨j + 1, by omega, by omega, rfl, by rw [CS.out, Int.add_assoc]⟩
      case measure => simp [intOf]; omega
    obtain rfl : j = m := by omega
    obtain ⟨C, hC, C1, C2⟩ : ∃ C, Cal.cum y j = C ∧ 0 ≤ C ∧ C ≤ 366 := ⟨_, rfl, cb1, cb2⟩
    rw [hC]
    have HC := Lib.hid hC
    clear hC cb1 cb2
    go_wp2
    go_loop [9, 7] (fun k s => ∃ j : Int, 1970 ≤ j ∧ (j ≤ y ∨ j = 1970) ∧ k = .int .i64 j ∧ s = .int .i64 (d - 1 + C + Cal.base j)) (fun k _ => (y - intOf k).toNat)
    case atStart => exact ⟨1970, by omega, .inr rfl, rfl, by rw [Cal.base_1970]; simp⟩
    case round =>
      obtain ⟨j2, hj3, hj4, rfl, rfl⟩ := hrel
      have bb := Cal.base_bd j2 (by omega) (by omega)
      obtain ⟨bb1, bb2⟩ := bb
      have yb := Cal.yd_pos j2
      obtain ⟨yb1, yb2⟩ := yb
      by_cases hlt2 : j2 < y
      · have BS := Lib.hid (Cal.base_succ j2)
        go_wp2_with (go_at_call 34; refine (yearDays_any _ _ (by omega) (by omega)).mono ?_; rintro e w' ⟨rfl, rfl⟩)
        go_round
        case rel => exact ⟨j2 + 1, by omega, by omega, rfl, by rw [BS.out, Int.add_assoc]⟩
        case measure => simp [intOf]; omega
      have HB := Lib.hid (show 1970 ≤ y → j2 = y by omega)
      have HB2 := Lib.hid (show y < 1970 → j2 = 1970 by omega)
      go_wp2
      go_loop [10, 7] (fun k s => ∃ j : Int, y ≤ j ∧ (j ≤ 1970 ∨ j = y) ∧ k = .int .i64 j ∧ s = .int .i64 (d - 1 + C + Cal.base j2 - (Cal.base j - Cal.base y))) (fun k _ => (1970 - intOf k).toNat)
      case atStart => exact ⟨y, by omega, .inr rfl, rfl, by simp⟩
      case round =>
        obtain ⟨j3, hj5, hj6, rfl, rfl⟩ := hrel
        have bb := Cal.base_bd j3 (by omega) (by omega)
        obtain ⟨bb3, bb4⟩ := bb
        have bb := Cal.base_bd y (by omega) (by omega)
        obtain ⟨bb5, bb6⟩ := bb
        have yb := Cal.yd_pos j3
        obtain ⟨yb3, yb4⟩ := yb
        by_cases hlt3 : j3 < 1970
        · have BS := Lib.hid (Cal.base_succ j3)
          go_wp2_with (go_at_call 34; refine (yearDays_any _ _ (by omega) (by omega)).mono ?_; rintro e w' ⟨rfl, rfl⟩)
          go_round
          case rel => exact ⟨j3 + 1, by omega, by omega, rfl, by rw [BS.out, show d - 1 + C + Cal.base j2 - (Cal.base j3 + Cal.yd j3 - Cal.base y) = d - 1 + C + Cal.base j2 - (Cal.base j3 - Cal.base y) - Cal.yd j3 from by omega]⟩
          case measure => simp [intOf]; omega
        have HF : Hid (d - 1 + C + Cal.base j2 - (Cal.base j3 - Cal.base y) = Cal.num y j d) := by
          have h1 := HB.out
          have h2 := HB2.out
          have h3 := HC.out
          show _ = _
          unfold Cal.num
          rw [h3]
          by_cases h : 1970 ≤ y
          · rw [h1 h, show j3 = y by omega]; omega
          · rw [h2 (by omega), show j3 = 1970 by omega, Cal.base_1970]; omega
        go_wp2
        refine bodyPost_ret (v := .agg #[.int .i64 6, .int .i64 (d - 1 + C + Cal.base j2 - (Cal.base j3 - Cal.base y)), .string ⟨#[]⟩, .slice none 0 0]) (by simp [results, Tryz.results48, go_sem]) rfl ⟨by rw [HF.out], by first | exact (Below.refl _ _).alloc (Nat.le_refl _) _ | exact (((Below.refl _ _).alloc (Nat.le_refl _) _).setCell (Nat.le_refl _) _)⟩
end Go.Proofs.YthnknmkekbledaaGreatDoor
