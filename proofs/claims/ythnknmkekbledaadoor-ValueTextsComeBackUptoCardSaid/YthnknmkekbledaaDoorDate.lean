/- The walks of 'dayValue', 'Date' and 'Months' of both packages: a Day, or Missing. No condition. -/
import Derived.Test.YthnknmkekbledaaDoorCiv
namespace Go.Proofs.YthnknmkekbledaaDoor
open Go.RowKit

theorem dayValue_in (n : Int) (w : World) (h1 : -25567 ≤ n) (h2 : n ≤ 84005) :
    Calls Tryd.prog 52 #[.int .i64 n] w fun e w' => e = .returned (.agg #[.int .i64 6, .int .i64 n, .string ⟨#[]⟩, .slice none 0 0]) ∧ Below w.heap.size w w' := by
  have b1 : outB n (-25567) 84005 = false := outB_false (by omega) (by omega)
  go_enter Tryd.func52, Tryd.ntmps52
  go_wp2_with (go_at_call 11; refine (outside_any _ _ _ _).mono ?_; rintro e w' ⟨rfl, rfl⟩)
  refine bodyPost_ret (v := .agg #[.int .i64 6, .int .i64 n, .string ⟨#[]⟩, .slice none 0 0]) (by simp [results, Tryd.results52, go_sem]) rfl ⟨rfl, by first | exact (Below.refl _ _).alloc (Nat.le_refl _) _ | exact (((Below.refl _ _).alloc (Nat.le_refl _) _).setCell (Nat.le_refl _) _)⟩
theorem dayValue_off (n : Int) (w : World) (h : n < -25567 ∨ 84005 < n) :
    Calls Tryd.prog 52 #[.int .i64 n] w fun e w' => e = .returned (.agg #[.int .i64 0, .int .i64 0, .string ⟨#[]⟩, .slice none 0 0]) ∧ Below w.heap.size w w' := by
  have b1 : outB n (-25567) 84005 = true := outB_true (by omega)
  clear h
  go_enter Tryd.func52, Tryd.ntmps52
  go_wp2_with (go_at_call 11; refine (outside_any _ _ _ _).mono ?_; rintro e w' ⟨rfl, rfl⟩)
  refine bodyPost_ret (v := .agg #[.int .i64 0, .int .i64 0, .string ⟨#[]⟩, .slice none 0 0]) (by simp [results, Tryd.results52, go_sem]) rfl ⟨rfl, by first | exact (Below.refl _ _).alloc (Nat.le_refl _) _ | exact (((Below.refl _ _).alloc (Nat.le_refl _) _).setCell (Nat.le_refl _) _)⟩

def dk (y m d : Int) : Int := if Cal.okDate y m d = true then 6 else 0
def dn (y m d : Int) : Int := if Cal.okDate y m d = true then Cal.num y m d else 0
theorem okDate_no {y m d : Int} (h : outB y 1800 2300 = true ∨ outB m 1 12 = true ∨ outB d 1 (Cal.dim y m) = true) : Cal.okDate y m d = false := by
  rw [Bool.eq_false_iff]
  intro e
  rw [Cal.okDate_iff] at e
  simp only [outB, Bool.or_eq_true, decide_eq_true_eq] at h
  omega
set_option maxHeartbeats 800000 in
theorem Date_any (y m d : Int) (w : World) :
    Calls Tryd.prog 35 #[.int .i64 y, .int .i64 m, .int .i64 d] w fun e w' => e = .returned (.agg #[.int .i64 (dk y m d), .int .i64 (dn y m d), .string ⟨#[]⟩, .slice none 0 0]) ∧ Below w.heap.size w w' := by
  have stop : Cal.okDate y m d = false → dk y m d = 0 ∧ dn y m d = 0 := fun h => by simp [dk, dn, h]
  by_cases e1 : outB y 1800 2300 = true
  · obtain ⟨z1, z2⟩ := stop (okDate_no (.inl e1))
    rw [z1, z2]
    clear z1 z2 stop
    go_enter Tryd.func35, Tryd.ntmps35
    go_wp2_with (go_at_call 11; refine (outside_any _ _ _ _).mono ?_; rintro e w' ⟨rfl, rfl⟩)
    refine bodyPost_ret (v := .agg #[.int .i64 0, .int .i64 0, .string ⟨#[]⟩, .slice none 0 0]) (by simp [results, Tryd.results35, go_sem]) rfl ⟨rfl, by first | exact (Below.refl _ _).alloc (Nat.le_refl _) _ | exact (((Below.refl _ _).alloc (Nat.le_refl _) _).setCell (Nat.le_refl _) _)⟩
  have e1' : outB y 1800 2300 = false := by simpa using e1
  clear e1
  by_cases e2 : outB m 1 12 = true
  · obtain ⟨z1, z2⟩ := stop (okDate_no (.inr (.inl e2)))
    rw [z1, z2]
    clear z1 z2 stop
    go_enter Tryd.func35, Tryd.ntmps35
    go_wp2_with (go_at_call 11; refine (outside_any _ _ _ _).mono ?_; rintro e w' ⟨rfl, rfl⟩)
    refine bodyPost_ret (v := .agg #[.int .i64 0, .int .i64 0, .string ⟨#[]⟩, .slice none 0 0]) (by simp [results, Tryd.results35, go_sem]) rfl ⟨rfl, by first | exact (Below.refl _ _).alloc (Nat.le_refl _) _ | exact (((Below.refl _ _).alloc (Nat.le_refl _) _).setCell (Nat.le_refl _) _)⟩
  have e2' : outB m 1 12 = false := by simpa using e2
  clear e2
  have hy : 1800 ≤ y ∧ y ≤ 2300 := by simp only [outB, Bool.or_eq_false_iff, decide_eq_false_iff_not] at e1'; omega
  have hm : 1 ≤ m ∧ m ≤ 12 := by simp only [outB, Bool.or_eq_false_iff, decide_eq_false_iff_not] at e2'; omega
  obtain ⟨y1, y2⟩ := hy
  obtain ⟨m1, m2⟩ := hm
  by_cases e3 : outB d 1 (Cal.dim y m) = true
  · obtain ⟨z1, z2⟩ := stop (okDate_no (.inr (.inr e3)))
    rw [z1, z2]
    clear z1 z2 stop
    go_enter Tryd.func35, Tryd.ntmps35
    go_wp2_with (first | (go_at_call 11; refine (outside_any _ _ _ _).mono ?_; rintro e w' ⟨rfl, rfl⟩) | (go_at_call 48; refine (daysOf_any _ _ _ (by omega) (by omega)).mono ?_; rintro e w' ⟨rfl, rfl⟩))
    refine bodyPost_ret (v := .agg #[.int .i64 0, .int .i64 0, .string ⟨#[]⟩, .slice none 0 0]) (by simp [results, Tryd.results35, go_sem]) rfl ⟨rfl, by first | exact (Below.refl _ _).alloc (Nat.le_refl _) _ | exact (((Below.refl _ _).alloc (Nat.le_refl _) _).setCell (Nat.le_refl _) _)⟩
  have e3' : outB d 1 (Cal.dim y m) = false := by simpa using e3
  clear e3
  have hd : 1 ≤ d ∧ d ≤ Cal.dim y m := by simp only [outB, Bool.or_eq_false_iff, decide_eq_false_iff_not] at e3'; omega
  have hd2 := Cal.dim_bd y m
  obtain ⟨d1, d2⟩ := hd
  have d3 : d ≤ 40 := by omega
  have hnr := Cal.num_range m1 m2 d1 d2
  have hok : Cal.okDate y m d = decide (1900 ≤ y ∧ y ≤ 2199) := by
    rw [Bool.eq_iff_iff, Cal.okDate_iff]
    simp only [decide_eq_true_eq]
    constructor
    · exact fun h => h.1
    · exact fun h => ⟨h, ⟨m1, m2⟩, d1, d2⟩
  clear hd2 stop
  by_cases hr : 1900 ≤ y ∧ y ≤ 2199
  · have z1 : dk y m d = 6 := by simp [dk, hok, hr]
    have z2 : dn y m d = Cal.num y m d := by simp [dn, hok, hr]
    obtain ⟨r1, r2⟩ := hnr.2 hr
    rw [z1, z2]
    clear z1 z2 hok hnr hr
    go_enter Tryd.func35, Tryd.ntmps35
    go_wp2_with (first | (go_at_call 11; refine (outside_any _ _ _ _).mono ?_; rintro e w' ⟨rfl, rfl⟩) | (go_at_call 48; refine (daysOf_any _ _ _ (by omega) (by omega)).mono ?_; rintro e w' ⟨rfl, rfl⟩) | (go_at_call 30; refine (number_any _ _ _ _ (by omega) (by omega) (by omega) (by omega) (by omega) (by omega)).mono ?_; rintro e w' ⟨rfl, rfl⟩))
    refine (dayValue_in _ _ r1 r2).mono ?_
    rintro e w1 ⟨rfl, hb1⟩
    obtain ⟨hc, hf⟩ := bcell hb1
    have hz : w.heap.size + 1 ≤ w1.heap.size := by have := hb1.size; simpa using this
    have hbw : Below w.heap.size w w1 := ((Below.refl _ _).alloc (Nat.le_refl _) _).trans (hb1.mono (by simp))
    go_wp2
    refine bodyPost_ret (v := .agg #[.int .i64 6, .int .i64 (Cal.num y m d), .string ⟨#[]⟩, .slice none 0 0]) (by simp [results, Tryd.results35, go_sem, hc]) rfl ⟨rfl, by repeat' (first | exact hbw | exact Nat.le_refl _ | apply Below.setCell)⟩
  · have z1 : dk y m d = 0 := by simp [dk, hok, hr]
    have z2 : dn y m d = 0 := by simp [dn, hok, hr]
    have r1 : Cal.num y m d < -25567 ∨ 84005 < Cal.num y m d := by
      have := mt hnr.1 hr
      omega
    rw [z1, z2]
    clear z1 z2 hok hnr hr
    have R1 := Lib.hid r1
    clear r1
    go_enter Tryd.func35, Tryd.ntmps35
    go_wp2_with (first | (go_at_call 11; refine (outside_any _ _ _ _).mono ?_; rintro e w' ⟨rfl, rfl⟩) | (go_at_call 48; refine (daysOf_any _ _ _ (by omega) (by omega)).mono ?_; rintro e w' ⟨rfl, rfl⟩) | (go_at_call 30; refine (number_any _ _ _ _ (by omega) (by omega) (by omega) (by omega) (by omega) (by omega)).mono ?_; rintro e w' ⟨rfl, rfl⟩))
    refine (dayValue_off _ _ R1.out).mono ?_
    rintro e w1 ⟨rfl, hb1⟩
    obtain ⟨hc, hf⟩ := bcell hb1
    have hz : w.heap.size + 1 ≤ w1.heap.size := by have := hb1.size; simpa using this
    have hbw : Below w.heap.size w w1 := ((Below.refl _ _).alloc (Nat.le_refl _) _).trans (hb1.mono (by simp))
    go_wp2
    refine bodyPost_ret (v := .agg #[.int .i64 0, .int .i64 0, .string ⟨#[]⟩, .slice none 0 0]) (by simp [results, Tryd.results35, go_sem, hc]) rfl ⟨rfl, by repeat' (first | exact hbw | exact Nat.le_refl _ | apply Below.setCell)⟩

end Go.Proofs.YthnknmkekbledaaDoor
