/- The walks of 'Months' of both packages. No condition. -/
import Derived.Test.YtfkgodgjchbbpaaDate
namespace Go.Proofs.Ytfkgodgjchbbpaa
open Go.RowKit

noncomputable def mT (n k : Int) : Int := 12 * Cal.cy n + Cal.cm n - 1 + k
noncomputable def mY (n k : Int) : Int := mT n k / 12
noncomputable def mM (n k : Int) : Int := mT n k % 12 + 1
noncomputable def mD (n k : Int) : Int := min (Cal.cd n) (Cal.dim (mY n k) (mM n k))
noncomputable def mK (n k : Int) : Int := if outB n (-25567) 84005 = true ∨ outB k (-4800) 4800 = true then 0 else dk (mY n k) (mM n k) (mD n k)
noncomputable def mN (n k : Int) : Int := if outB n (-25567) 84005 = true ∨ outB k (-4800) 4800 = true then 0 else dn (mY n k) (mM n k) (mD n k)
theorem civ_bd {n : Int} (h1 : -25567 ≤ n) (h2 : n ≤ 84005) : 1900 ≤ Cal.cy n ∧ Cal.cy n ≤ 2199 ∧ 1 ≤ Cal.cm n ∧ Cal.cm n ≤ 12 ∧ 1 ≤ Cal.cd n ∧ Cal.cd n ≤ 31 := by
  have h := Cal.civ_spec h1 h2
  obtain ⟨h3, h4⟩ := Cal.range_year h1 h2 h.year.1 h.year.2
  have := Cal.dim_bd (Cal.cy n) (Cal.cm n)
  have := h.d2
  exact ⟨h3, h4, h.m1, h.m2, h.d1, by omega⟩
theorem out_no {n lo hi : Int} (h : ¬ outB n lo hi = true) : lo ≤ n ∧ n ≤ hi := by
  simp only [outB, Bool.or_eq_true, decide_eq_true_eq] at h
  omega
theorem out_yes {n lo hi : Int} (h : outB n lo hi = true) : n < lo ∨ hi < n := by
  simpa only [outB, Bool.or_eq_true, decide_eq_true_eq] using h

set_option maxHeartbeats 800000 in
theorem RMonths_any (n k : Int) (w : World) :
    Calls Try.prog 24 #[.int .i64 n, .int .i64 k] w fun e w' => e = .returned (.agg #[.int .i64 (mK n k), .int .i64 (mN n k), .string ⟨#[]⟩, .slice none 0 0]) ∧ Below w.heap.size w w' := by
  by_cases e1 : outB n (-25567) 84005 = true
  · have z1 : mK n k = 0 := by simp [mK, e1]
    have z2 : mN n k = 0 := by simp [mN, e1]
    have ho := out_yes e1
    have HO := Lib.hid ho
    rw [z1, z2]
    clear z1 z2 e1 ho
    go_enter Try.func24, Try.ntmps24
    go_wp2_with (go_at_call 20; refine (RCivil_off _ _ HO.out).mono ?_; rintro e w' ⟨rfl, rfl⟩)
    refine bodyPost_ret (v := .agg #[.int .i64 0, .int .i64 0, .string ⟨#[]⟩, .slice none 0 0]) (by simp [results, Try.results24, go_sem]) rfl ⟨rfl, by first | exact (Below.refl _ _).alloc (Nat.le_refl _) _ | exact (((Below.refl _ _).alloc (Nat.le_refl _) _).setCell (Nat.le_refl _) _)⟩
  obtain ⟨n1, n2⟩ := out_no e1
  have e1' : outB n (-25567) 84005 = false := by simpa using e1
  by_cases e2 : outB k (-4800) 4800 = true
  · have z1 : mK n k = 0 := by simp [mK, e2]
    have z2 : mN n k = 0 := by simp [mN, e2]
    rw [z1, z2]
    clear z1 z2 e1
    go_enter Try.func24, Try.ntmps24
    go_wp2_with (first | (go_at_call 33; refine (within_any _ _ _ _).mono ?_; rintro e w' ⟨rfl, rfl⟩) | (go_at_call 20; refine (RCivil_in _ _ n1 n2).mono ?_; rintro e w' ⟨rfl, rfl⟩))
    refine bodyPost_ret (v := .agg #[.int .i64 0, .int .i64 0, .string ⟨#[]⟩, .slice none 0 0]) (by simp [results, Try.results24, go_sem]) rfl ⟨rfl, by first | exact (Below.refl _ _).alloc (Nat.le_refl _) _ | exact (((Below.refl _ _).alloc (Nat.le_refl _) _).setCell (Nat.le_refl _) _)⟩
  obtain ⟨k1, k2⟩ := out_no e2
  have e2' : outB k (-4800) 4800 = false := by simpa using e2
  have z1 : mK n k = dk (mY n k) (mM n k) (mD n k) := by simp [mK, e1', e2']
  have z2 : mN n k = dn (mY n k) (mM n k) (mD n k) := by simp [mN, e1', e2']
  rw [z1, z2]
  obtain ⟨b1, b2, b3, b4, b5, b6⟩ := civ_bd n1 n2
  clear z1 z2 e1 e2
  have HY := Lib.hid (show mY n k = (12 * Cal.cy n + Cal.cm n - 1 + k) / 12 from rfl)
  have HM := Lib.hid (show mM n k = (12 * Cal.cy n + Cal.cm n - 1 + k) % 12 + 1 from rfl)
  have HD := Lib.hid (show mD n k = min (Cal.cd n) (Cal.dim (mY n k) (mM n k)) from rfl)
  go_enter Try.func24, Try.ntmps24
  go_wp2_with (first | (go_at_call 33; refine (within_any _ _ _ _).mono ?_; rintro e w' ⟨rfl, rfl⟩) | (go_at_call 20; refine (RCivil_in _ _ n1 n2).mono ?_; rintro e w' ⟨rfl, rfl⟩) | (go_at_call 39; refine (monthDays_any _ _ _ (by omega) (by omega)).mono ?_; rintro e w' ⟨rfl, rfl⟩))
  refine (RDate_any _ _ _ _).mono ?_
  rintro e w1 ⟨he, hb1⟩
  obtain rfl : e = .returned (.agg #[.int .i64 (dk (mY n k) (mM n k) (mD n k)), .int .i64 (dn (mY n k) (mM n k) (mD n k)), .string ⟨#[]⟩, .slice none 0 0]) := he
  obtain ⟨hc, hf⟩ := bcell hb1
  have hz : w.heap.size + 1 ≤ w1.heap.size := by have := hb1.size; simpa using this
  have hbw : Below w.heap.size w w1 := ((Below.refl _ _).alloc (Nat.le_refl _) _).trans (hb1.mono (by simp))
  go_wp2
  refine bodyPost_ret (v := .agg #[.int .i64 (dk (mY n k) (mM n k) (mD n k)), .int .i64 (dn (mY n k) (mM n k) (mD n k)), .string ⟨#[]⟩, .slice none 0 0]) (by simp [results, Try.results24, go_sem, hc, hz]) rfl ⟨rfl, by repeat' (first | exact hbw | exact Nat.le_refl _ | apply Below.setCell)⟩

theorem dk_far {y m d : Int} (h : y < 1900 ∨ 2199 < y) : dk y m d = 0 ∧ dn y m d = 0 := by
  have : Cal.okDate y m d = false := by
    rw [Bool.eq_false_iff]
    intro e
    rw [Cal.okDate_iff] at e
    omega
  simp [dk, dn, this]
theorem mD_bd {n k : Int} (h : 1 ≤ Cal.cd n) (h' : Cal.cd n ≤ 31) : 1 ≤ mD n k ∧ mD n k ≤ Cal.dim (mY n k) (mM n k) ∧ mD n k ≤ 31 := by
  have := Cal.dim_bd (mY n k) (mM n k)
  unfold mD
  omega
theorem mM_bd (n k : Int) : 1 ≤ mM n k ∧ mM n k ≤ 12 := by unfold mM; omega
set_option maxHeartbeats 800000 in
theorem Months_any (n k : Int) (w : World) :
    Calls Try.prog 23 #[.int .i64 n, .int .i64 k] w fun e w' => e = .returned (.agg #[.int .i64 (mK n k), .int .i64 (mN n k), .string ⟨#[]⟩, .slice none 0 0]) ∧ Below w.heap.size w w' := by
  by_cases e1 : outB n (-25567) 84005 = true
  · have z1 : mK n k = 0 := by simp [mK, e1]
    have z2 : mN n k = 0 := by simp [mN, e1]
    rw [z1, z2]
    clear z1 z2
    go_enter Try.func23, Try.ntmps23
    go_wp2_with (go_at_call 31; refine (outside_any _ _ _ _).mono ?_; rintro e w' ⟨rfl, rfl⟩)
    refine bodyPost_ret (v := .agg #[.int .i64 0, .int .i64 0, .string ⟨#[]⟩, .slice none 0 0]) (by simp [results, Try.results23, go_sem]) rfl ⟨rfl, by first | exact (Below.refl _ _).alloc (Nat.le_refl _) _ | exact (((Below.refl _ _).alloc (Nat.le_refl _) _).setCell (Nat.le_refl _) _)⟩
  obtain ⟨n1, n2⟩ := out_no e1
  have e1' : outB n (-25567) 84005 = false := by simpa using e1
  obtain ⟨b1, b2, b3, b4, b5, b6⟩ := civ_bd n1 n2
  by_cases e2 : outB k (-5000) 5000 = true
  · have e3 : outB k (-4800) 4800 = true := outB_true (by have := out_yes e2; omega)
    have z1 : mK n k = 0 := by simp [mK, e3]
    have z2 : mN n k = 0 := by simp [mN, e3]
    rw [z1, z2]
    clear z1 z2 e1 e3
    go_enter Try.func23, Try.ntmps23
    go_wp2_with (go_at_call 31; refine (outside_any _ _ _ _).mono ?_; rintro e w' ⟨rfl, rfl⟩)
    refine bodyPost_ret (v := .agg #[.int .i64 0, .int .i64 0, .string ⟨#[]⟩, .slice none 0 0]) (by simp [results, Try.results23, go_sem]) rfl ⟨rfl, by first | exact (Below.refl _ _).alloc (Nat.le_refl _) _ | exact (((Below.refl _ _).alloc (Nat.le_refl _) _).setCell (Nat.le_refl _) _)⟩
  obtain ⟨k1, k2⟩ := out_no e2
  have e2' : outB k (-5000) 5000 = false := by simpa using e2
  have far : mY n k < 1900 ∨ 2199 < mY n k → mK n k = 0 ∧ mN n k = 0 := by
    intro h
    obtain ⟨f1, f2⟩ := dk_far (m := mM n k) (d := mD n k) h
    unfold mK mN
    rw [f1, f2]
    simp
  have near : 1900 ≤ mY n k → mY n k ≤ 2199 → mK n k = 6 ∧ mN n k = Cal.num (mY n k) (mM n k) (mD n k) := by
    intro h3 h4
    have e3 : outB k (-4800) 4800 = false := by
      refine outB_false ?_ ?_ <;> unfold mY mT at h3 h4 <;> omega
    obtain ⟨d1, d2, -⟩ := mD_bd (k := k) b5 b6
    have hok : Cal.okDate (mY n k) (mM n k) (mD n k) = true := by rw [Cal.okDate_iff]; exact ⟨⟨h3, h4⟩, mM_bd n k, d1, d2⟩
    simp [mK, mN, e1', e3, dk, dn, hok]
  have hyv : mY n k = (12 * Cal.cy n + Cal.cm n - 1 + k) / 12 := rfl
  by_cases e3 : outB (mY n k) 1800 2300 = true
  · obtain ⟨z1, z2⟩ := far (by have := out_yes e3; omega)
    rw [z1, z2]
    rw [hyv] at e3
    clear z1 z2 e1 e2 far near hyv
    go_enter Try.func23, Try.ntmps23
    go_wp2_with (first | (go_at_call 31; refine (outside_any _ _ _ _).mono ?_; rintro e w' ⟨rfl, rfl⟩) | (go_at_call 34; refine (civil_any _ _ n1 n2).mono ?_; rintro e w' ⟨rfl, rfl⟩))
    refine bodyPost_ret (v := .agg #[.int .i64 0, .int .i64 0, .string ⟨#[]⟩, .slice none 0 0]) (by simp [results, Try.results23, go_sem]) rfl ⟨rfl, by first | exact (Below.refl _ _).alloc (Nat.le_refl _) _ | exact (((Below.refl _ _).alloc (Nat.le_refl _) _).setCell (Nat.le_refl _) _)⟩
  obtain ⟨y1, y2⟩ := out_no e3
  have e3' : outB ((12 * Cal.cy n + Cal.cm n - 1 + k) / 12) 1800 2300 = false := by rw [← hyv]; simpa using e3
  obtain ⟨d1, d2, d3⟩ := mD_bd (k := k) b5 b6
  obtain ⟨m1, m2⟩ := mM_bd n k
  have nr := Cal.num_range m1 m2 d1 d2
  have hy1 : 1800 ≤ (12 * Cal.cy n + Cal.cm n - 1 + k) / 12 := by rw [← hyv]; exact y1
  have hy2 : (12 * Cal.cy n + Cal.cm n - 1 + k) / 12 ≤ 2300 := by rw [← hyv]; exact y2
  have num_ok : ∀ w : World, Calls Try.prog 37 #[.int .i64 (mY n k), .int .i64 (mM n k), .int .i64 (mD n k)] w fun e w' => e = .returned (.int .i64 (Cal.num (mY n k) (mM n k) (mD n k))) ∧ w = w' :=
    fun w => number_any _ _ _ _ (by omega) (by omega) m1 m2 (by omega) (by omega)
  have NK := Lib.hid num_ok
  by_cases hr : 1900 ≤ mY n k ∧ mY n k ≤ 2199
  · obtain ⟨z1, z2⟩ := near hr.1 hr.2
    obtain ⟨r1, r2⟩ := nr.2 hr
    rw [z1, z2]
    clear z1 z2 e1 e2 far near hyv e3 nr hr d2 num_ok
    go_enter Try.func23, Try.ntmps23
    go_wp2_with (first | (go_at_call 31; refine (outside_any _ _ _ _).mono ?_; rintro e w' ⟨rfl, rfl⟩) | (go_at_call 34; refine (civil_any _ _ n1 n2).mono ?_; rintro e w' ⟨rfl, rfl⟩) | (go_at_call 35; refine (daysOf_any _ _ _ (by omega) (by omega)).mono ?_; rintro e w' ⟨rfl, rfl⟩))
    refine (NK.out _).mono ?_
    rintro e w0 ⟨rfl, rfl⟩
    go_wp2_with fail
    refine (dayValue_in _ _ r1 r2).mono ?_
    rintro e w1 ⟨rfl, hb1⟩
    obtain ⟨hc, hf⟩ := bcell hb1
    have hz : w.heap.size + 1 ≤ w1.heap.size := by have := hb1.size; simpa using this
    have hbw : Below w.heap.size w w1 := ((Below.refl _ _).alloc (Nat.le_refl _) _).trans (hb1.mono (by simp))
    go_wp2
    refine bodyPost_ret (v := .agg #[.int .i64 6, .int .i64 (Cal.num (mY n k) (mM n k) (mD n k)), .string ⟨#[]⟩, .slice none 0 0]) (by simp [results, Try.results23, go_sem, hc, hz]) rfl ⟨rfl, by repeat' (first | exact hbw | exact Nat.le_refl _ | apply Below.setCell)⟩
  · obtain ⟨z1, z2⟩ := far (by omega)
    have R1 := Lib.hid (show Cal.num (mY n k) (mM n k) (mD n k) < -25567 ∨ 84005 < Cal.num (mY n k) (mM n k) (mD n k) by have := mt nr.1 hr; omega)
    rw [z1, z2]
    clear z1 z2 e1 e2 far near hyv e3 nr hr d2 num_ok
    go_enter Try.func23, Try.ntmps23
    go_wp2_with (first | (go_at_call 31; refine (outside_any _ _ _ _).mono ?_; rintro e w' ⟨rfl, rfl⟩) | (go_at_call 34; refine (civil_any _ _ n1 n2).mono ?_; rintro e w' ⟨rfl, rfl⟩) | (go_at_call 35; refine (daysOf_any _ _ _ (by omega) (by omega)).mono ?_; rintro e w' ⟨rfl, rfl⟩))
    refine (NK.out _).mono ?_
    rintro e w0 ⟨rfl, rfl⟩
    go_wp2_with fail
    refine (dayValue_off _ _ R1.out).mono ?_
    rintro e w1 ⟨rfl, hb1⟩
    obtain ⟨hc, hf⟩ := bcell hb1
    have hz : w.heap.size + 1 ≤ w1.heap.size := by have := hb1.size; simpa using this
    have hbw : Below w.heap.size w w1 := ((Below.refl _ _).alloc (Nat.le_refl _) _).trans (hb1.mono (by simp))
    go_wp2
    refine bodyPost_ret (v := .agg #[.int .i64 0, .int .i64 0, .string ⟨#[]⟩, .slice none 0 0]) (by simp [results, Try.results23, go_sem, hc, hz]) rfl ⟨rfl, by repeat' (first | exact hbw | exact Nat.le_refl _ | apply Below.setCell)⟩
end Go.Proofs.Ytfkgodgjchbbpaa
