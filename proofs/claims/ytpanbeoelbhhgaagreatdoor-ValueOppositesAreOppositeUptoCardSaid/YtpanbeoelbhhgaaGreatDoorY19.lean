/- The walks of 'civil', 'Civil' and 'Weekday' of both packages. Condition: 'civil' for days in the range. · The walks of 'dayValue', 'Date' and 'Months' of both packages: a Day, or Missing. No condition. · The walks of 'Months' of both packages. No condition. · The value of an expression in a scene. The plain mathematics: no program in sight. · An expression has a sound value of its kind, or none. The plain law. · The keys of a sight tell names and rows apart; what its maps give. The plain law. -/
import Derived.Test.YtpanbeoelbhhgaaGreatDoorY18
import Derived.Test.YtpanbeoelbhhgaaGreatDoorY14
import Derived.Test.YtpanbeoelbhhgaaGreatDoorY16
import Derived.Test.YtpanbeoelbhhgaaGreatDoorY4
namespace Go.Proofs.YtpanbeoelbhhgaaGreatDoor
open Go.RowKit
theorem num_bd (y m d : Int) (h0 : 1600 ≤ y) (h1 : y ≤ 2400) (d0 : 0 ≤ d) (d1 : d ≤ 40) : -200000 ≤ Cal.num y m d ∧ Cal.num y m d ≤ 200000 := by
  have := Cal.base_bd y h0 h1
  have := Cal.cum_bd y m
  unfold Cal.num
  omega
theorem num_one (y m : Int) : Cal.num y m 1 = Cal.base y + Cal.cum y m := by unfold Cal.num; omega
theorem num_11 (y : Int) : Cal.num y 1 1 = Cal.base y := by unfold Cal.num; rw [Cal.cum_one]; omega
set_option maxHeartbeats 800000 in
theorem civil_any (n : Int) (w : World) (h1 : -25567 ≤ n) (h2 : n ≤ 84005) :
    Calls Tryz.prog 123 #[.int .i64 n] w fun e w' => e = .returned (.tuple #[.int .i64 (Cal.cy n), .int .i64 (Cal.cm n), .int .i64 (Cal.cd n)]) ∧ w = w' := by
  obtain ⟨g1, g2, g3⟩ := Cal.guess_ok h1 h2
  have main : ∀ g : Int, Cal.base g ≤ n → 1899 ≤ g → g ≤ 2199 → Cal.guess n = g → Calls Tryz.prog 123 #[.int .i64 n] w fun e w' => e = .returned (.tuple #[.int .i64 (Cal.cy n), .int .i64 (Cal.cm n), .int .i64 (Cal.cd n)]) ∧ w = w' := by
    intro g g1 g2 g3 hg
    have hq1 := Cal.tdiv_bd h1 h2
    obtain ⟨q1, q2, q3, q4⟩ := hq1
    have HG := Lib.hid hg
    clear hg
    by_cases hn : n < 0
    all_goals
      have HE := Lib.hid HG.out
      unfold Cal.guess at HE
      go_enter Tryz.func123, Tryz.ntmps123
      go_wp2
      go_loop [2] (fun t => ∃ y : Int, Cal.base y ≤ n ∧ 1899 ≤ y ∧ y ≤ 2199 ∧ t = .int .i64 y) (fun t => (2200 - intOf t).toNat)
      case atStart =>
        refine ⟨g, g1, g2, g3, ?_⟩
        rw [← HE.out]
        first | rw [if_pos hn] | rw [if_neg (by omega)]
      case round =>
        obtain ⟨y, hb, y1, y2, rfl⟩ := hrel
        have e11 := num_11 (y + 1)
        have nb := num_bd (y + 1) 1 1 (by omega) (by omega) (by omega) (by omega)
        obtain ⟨nb1, nb2⟩ := nb
        by_cases hc : Cal.base (y + 1) ≤ n
        · have hc' : Cal.num (y + 1) 1 1 ≤ n := by omega
          have y3 : y + 1 ≤ 2199 := by
            by_cases h : y + 1 ≤ 2199
            · exact h
            · have := Cal.base_2200
              have := Cal.base_mono (show 2200 ≤ y + 1 by omega)
              omega
          clear e11
          go_wp2_with (go_at_call 166; refine (number_any _ _ _ _ (by omega) (by omega) (by omega) (by omega) (by omega) (by omega)).mono ?_; rintro e w' ⟨rfl, rfl⟩)
          go_round
          case rel => exact ⟨y + 1, hc, by omega, y3, rfl⟩
          case measure => simp [intOf]; omega
        · have hc' : n < Cal.num (y + 1) 1 1 := by omega
          have hs := Cal.base_succ y
          have hs' : n < Cal.base y + Cal.yd y := by omega
          clear e11 hs hc
          go_wp2_with (go_at_call 166; refine (number_any _ _ _ _ (by omega) (by omega) (by omega) (by omega) (by omega) (by omega)).mono ?_; rintro e w' ⟨rfl, rfl⟩)
          go_loop [3] (fun t => ∃ m : Int, 1 ≤ m ∧ m ≤ 12 ∧ t = .int .i64 m ∧ Cal.base y + Cal.cum y m ≤ n) (fun t => (12 - intOf t).toNat)
          case atStart => exact ⟨1, by omega, by omega, rfl, by rw [Cal.cum_one]; omega⟩
          case round =>
            obtain ⟨m, m1, m2, rfl, hm⟩ := hrel
            have en := num_one y (m + 1)
            have nb := num_bd y (m + 1) 1 (by omega) (by omega) (by omega) (by omega)
            obtain ⟨nb3, nb4⟩ := nb
            have nb' := num_bd y m 1 (by omega) (by omega) (by omega) (by omega)
            obtain ⟨nb5, nb6⟩ := nb'
            by_cases hd : m < 12 ∧ Cal.base y + Cal.cum y (m + 1) ≤ n
            · obtain ⟨hd1, hd2⟩ := hd
              have hd3 : Cal.num y (m + 1) 1 ≤ n := by omega
              clear en
              go_wp2_with (go_at_call 166; refine (number_any _ _ _ _ (by omega) (by omega) (by omega) (by omega) (by omega) (by omega)).mono ?_; rintro e w' ⟨rfl, rfl⟩)
              go_round
              case rel => exact ⟨m + 1, by omega, by omega, rfl, hd2⟩
              case measure => simp [intOf]; omega
            · have hv : n < Cal.base y + Cal.cum y m + Cal.dim y m := by
                by_cases h12 : m = 12
                · have := Cal.cum_succ y 12 (by omega) (by omega)
                  have h13 := Cal.cum_13 y
                  subst h12
                  simp only [show (12 : Int) + 1 = 13 from rfl] at *
                  omega
                · have := Cal.cum_succ y m m1 m2
                  omega
              have hciv := Cal.civil_of hm hv m1 m2
              have en1 := num_one y m
              have HR : Hid (Cal.cy n = y ∧ Cal.cm n = m ∧ Cal.cd n = n - Cal.num y m 1 + 1) := ⟨hciv.cy, hciv.cm, by rw [hciv.cd, en1]⟩
              have hd4 : m < 12 → n < Cal.num y (m + 1) 1 := fun h => by omega
              clear hd en en1 hciv
              by_cases h12 : m < 12
              all_goals
                first | have hd5 := hd4 h12 | skip
                clear hd4
                go_wp2_with (go_at_call 166; refine (number_any _ _ _ _ (by omega) (by omega) (by omega) (by omega) (by omega) (by omega)).mono ?_; rintro e w' ⟨rfl, rfl⟩)
                go_ret3
                exact ⟨ret_tup3 HR.out.1.symm HR.out.2.1.symm HR.out.2.2.symm, rfl⟩
  exact main _ g1 g2 g3 rfl
end Go.Proofs.YtpanbeoelbhhgaaGreatDoor
namespace Go.Proofs.YtpanbeoelbhhgaaGreatDoor
open Go.RowKit
theorem dayValue_in (n : Int) (w : World) (h1 : -25567 ≤ n) (h2 : n ≤ 84005) :
    Calls Tryz.prog 125 #[.int .i64 n] w fun e w' => e = .returned (.agg #[.int .i64 6, .int .i64 n, .string ⟨#[]⟩, .slice none 0 0]) ∧ Below w.heap.size w w' := by
  have b1 : outB n (-25567) 84005 = false := outB_false (by omega) (by omega)
  go_enter Tryz.func125, Tryz.ntmps125
  go_wp2_with (go_at_call 23; refine (outside_any _ _ _ _).mono ?_; rintro e w' ⟨rfl, rfl⟩)
  refine bodyPost_ret (v := .agg #[.int .i64 6, .int .i64 n, .string ⟨#[]⟩, .slice none 0 0]) (by simp [results, Tryz.results125, go_sem]) rfl ⟨rfl, by first | exact (Below.refl _ _).alloc (Nat.le_refl _) _ | exact (((Below.refl _ _).alloc (Nat.le_refl _) _).setCell (Nat.le_refl _) _)⟩
theorem dayValue_off (n : Int) (w : World) (h : n < -25567 ∨ 84005 < n) :
    Calls Tryz.prog 125 #[.int .i64 n] w fun e w' => e = .returned (.agg #[.int .i64 0, .int .i64 0, .string ⟨#[]⟩, .slice none 0 0]) ∧ Below w.heap.size w w' := by
  have b1 : outB n (-25567) 84005 = true := outB_true (by omega)
  clear h
  go_enter Tryz.func125, Tryz.ntmps125
  go_wp2_with (go_at_call 23; refine (outside_any _ _ _ _).mono ?_; rintro e w' ⟨rfl, rfl⟩)
  refine bodyPost_ret (v := .agg #[.int .i64 0, .int .i64 0, .string ⟨#[]⟩, .slice none 0 0]) (by simp [results, Tryz.results125, go_sem]) rfl ⟨rfl, by first | exact (Below.refl _ _).alloc (Nat.le_refl _) _ | exact (((Below.refl _ _).alloc (Nat.le_refl _) _).setCell (Nat.le_refl _) _)⟩
def dk (y m d : Int) : Int := if Cal.okDate y m d = true then 6 else 0
def dn (y m d : Int) : Int := if Cal.okDate y m d = true then Cal.num y m d else 0
end Go.Proofs.YtpanbeoelbhhgaaGreatDoor
namespace Go.Proofs.YtpanbeoelbhhgaaGreatDoor
open Go.RowKit
noncomputable def mT (n k : Int) : Int := 12 * Cal.cy n + Cal.cm n - 1 + k
noncomputable def mY (n k : Int) : Int := mT n k / 12
noncomputable def mM (n k : Int) : Int := mT n k % 12 + 1
noncomputable def mD (n k : Int) : Int := min (Cal.cd n) (Cal.dim (mY n k) (mM n k))
noncomputable def mK (n k : Int) : Int := if outB n (-25567) 84005 = true ∨ outB k (-4800) 4800 = true then 0 else dk (mY n k) (mM n k) (mD n k)
noncomputable def mN (n k : Int) : Int := if outB n (-25567) 84005 = true ∨ outB k (-4800) 4800 = true then 0 else dn (mY n k) (mM n k) (mD n k)
theorem civ_bd {n : Int} (h1 : -25567 ≤ n) (h2 : n ≤ 84005) : 1900 ≤ Cal.cy n ∧ Cal.cy n ≤ 2199 ∧ 1 ≤ Cal.cm n ∧ Cal.cm n ≤ 12 ∧ 1 ≤ Cal.cd n ∧ Cal.cd n ≤ 31 := by
  have h := Cal.civ_spec h1 h2
  obtain ⟨h3, h4⟩ := Cal.range_year h1 h2 h.year.1 h.year.2
  have := Cal.dim_bd (Cal.cy n) (Cal.cm n)
  have := h.d2
  exact ⟨h3, h4, h.m1, h.m2, h.d1, by omega⟩
theorem out_no {n lo hi : Int} (h : ¬ outB n lo hi = true) : lo ≤ n ∧ n ≤ hi := by
  simp only [outB, Bool.or_eq_true, decide_eq_true_eq] at h
  omega
theorem out_yes {n lo hi : Int} (h : outB n lo hi = true) : n < lo ∨ hi < n := by
  simpa only [outB, Bool.or_eq_true, decide_eq_true_eq] using h
theorem dk_far {y m d : Int} (h : y < 1900 ∨ 2199 < y) : dk y m d = 0 ∧ dn y m d = 0 := by
  have : Cal.okDate y m d = false := by
    rw [Bool.eq_false_iff]
    intro e
    rw [Cal.okDate_iff] at e
    omega
  simp [dk, dn, this]
theorem mD_bd {n k : Int} (h : 1 ≤ Cal.cd n) (h' : Cal.cd n ≤ 31) : 1 ≤ mD n k ∧ mD n k ≤ Cal.dim (mY n k) (mM n k) ∧ mD n k ≤ 31 := by
  have := Cal.dim_bd (mY n k) (mM n k)
  unfold mD
  omega
theorem mM_bd (n k : Int) : 1 ≤ mM n k ∧ mM n k ≤ 12 := by unfold mM; omega
set_option maxHeartbeats 800000 in
theorem Months_any (n k : Int) (w : World) :
    Calls Tryz.prog 167 #[.int .i64 n, .int .i64 k] w fun e w' => e = .returned (.agg #[.int .i64 (mK n k), .int .i64 (mN n k), .string ⟨#[]⟩, .slice none 0 0]) ∧ Below w.heap.size w w' := by
  by_cases e1 : outB n (-25567) 84005 = true
  · have z1 : mK n k = 0 := by simp [mK, e1]
    have z2 : mN n k = 0 := by simp [mN, e1]
    rw [z1, z2]
    clear z1 z2
    go_enter Tryz.func167, Tryz.ntmps167
    go_wp2_with (go_at_call 23; refine (outside_any _ _ _ _).mono ?_; rintro e w' ⟨rfl, rfl⟩)
    refine bodyPost_ret (v := .agg #[.int .i64 0, .int .i64 0, .string ⟨#[]⟩, .slice none 0 0]) (by simp [results, Tryz.results167, go_sem]) rfl ⟨rfl, by first | exact (Below.refl _ _).alloc (Nat.le_refl _) _ | exact (((Below.refl _ _).alloc (Nat.le_refl _) _).setCell (Nat.le_refl _) _)⟩
  obtain ⟨n1, n2⟩ := out_no e1
  have e1' : outB n (-25567) 84005 = false := by simpa using e1
  obtain ⟨b1, b2, b3, b4, b5, b6⟩ := civ_bd n1 n2
  by_cases e2 : outB k (-5000) 5000 = true
  · have e3 : outB k (-4800) 4800 = true := outB_true (by have := out_yes e2; omega)
    have z1 : mK n k = 0 := by simp [mK, e3]
    have z2 : mN n k = 0 := by simp [mN, e3]
    rw [z1, z2]
    clear z1 z2 e1 e3
    go_enter Tryz.func167, Tryz.ntmps167
    go_wp2_with (go_at_call 23; refine (outside_any _ _ _ _).mono ?_; rintro e w' ⟨rfl, rfl⟩)
    refine bodyPost_ret (v := .agg #[.int .i64 0, .int .i64 0, .string ⟨#[]⟩, .slice none 0 0]) (by simp [results, Tryz.results167, go_sem]) rfl ⟨rfl, by first | exact (Below.refl _ _).alloc (Nat.le_refl _) _ | exact (((Below.refl _ _).alloc (Nat.le_refl _) _).setCell (Nat.le_refl _) _)⟩
  obtain ⟨k1, k2⟩ := out_no e2
  have e2' : outB k (-5000) 5000 = false := by simpa using e2
  have far : mY n k < 1900 ∨ 2199 < mY n k → mK n k = 0 ∧ mN n k = 0 := by
    intro h
    obtain ⟨f1, f2⟩ := dk_far (m := mM n k) (d := mD n k) h
    unfold mK mN
    rw [f1, f2]
    simp
  have near : 1900 ≤ mY n k → mY n k ≤ 2199 → mK n k = 6 ∧ mN n k = Cal.num (mY n k) (mM n k) (mD n k) := by
    intro h3 h4
    have e3 : outB k (-4800) 4800 = false := by
      refine outB_false ?_ ?_ <;> unfold mY mT at h3 h4 <;> omega
    obtain ⟨d1, d2, -⟩ := mD_bd (k := k) b5 b6
    have hok : Cal.okDate (mY n k) (mM n k) (mD n k) = true := by rw [Cal.okDate_iff]; exact ⟨⟨h3, h4⟩, mM_bd n k, d1, d2⟩
    simp [mK, mN, e1', e3, dk, dn, hok]
  have hyv : mY n k = (12 * Cal.cy n + Cal.cm n - 1 + k) / 12 := rfl
  by_cases e3 : outB (mY n k) 1800 2300 = true
  · obtain ⟨z1, z2⟩ := far (by have := out_yes e3; omega)
    rw [z1, z2]
    rw [hyv] at e3
    clear z1 z2 e1 e2 far near hyv
    go_enter Tryz.func167, Tryz.ntmps167
    go_wp2_with (first | (go_at_call 23; refine (outside_any _ _ _ _).mono ?_; rintro e w' ⟨rfl, rfl⟩) | (go_at_call 123; refine (civil_any _ _ n1 n2).mono ?_; rintro e w' ⟨rfl, rfl⟩))
    refine bodyPost_ret (v := .agg #[.int .i64 0, .int .i64 0, .string ⟨#[]⟩, .slice none 0 0]) (by simp [results, Tryz.results167, go_sem]) rfl ⟨rfl, by first | exact (Below.refl _ _).alloc (Nat.le_refl _) _ | exact (((Below.refl _ _).alloc (Nat.le_refl _) _).setCell (Nat.le_refl _) _)⟩
  obtain ⟨y1, y2⟩ := out_no e3
  have e3' : outB ((12 * Cal.cy n + Cal.cm n - 1 + k) / 12) 1800 2300 = false := by rw [← hyv]; simpa using e3
  obtain ⟨d1, d2, d3⟩ := mD_bd (k := k) b5 b6
  obtain ⟨m1, m2⟩ := mM_bd n k
  have nr := Cal.num_range m1 m2 d1 d2
  have hy1 : 1800 ≤ (12 * Cal.cy n + Cal.cm n - 1 + k) / 12 := by rw [← hyv]; exact y1
  have hy2 : (12 * Cal.cy n + Cal.cm n - 1 + k) / 12 ≤ 2300 := by rw [← hyv]; exact y2
  have num_ok : ∀ w : World, Calls Tryz.prog 166 #[.int .i64 (mY n k), .int .i64 (mM n k), .int .i64 (mD n k)] w fun e w' => e = .returned (.int .i64 (Cal.num (mY n k) (mM n k) (mD n k))) ∧ w = w' :=
    fun w => number_any _ _ _ _ (by omega) (by omega) m1 m2 (by omega) (by omega)
  have NK := Lib.hid num_ok
  by_cases hr : 1900 ≤ mY n k ∧ mY n k ≤ 2199
  · obtain ⟨z1, z2⟩ := near hr.1 hr.2
    obtain ⟨r1, r2⟩ := nr.2 hr
    rw [z1, z2]
    clear z1 z2 e1 e2 far near hyv e3 nr hr d2 num_ok
    go_enter Tryz.func167, Tryz.ntmps167
    go_wp2_with (first | (go_at_call 23; refine (outside_any _ _ _ _).mono ?_; rintro e w' ⟨rfl, rfl⟩) | (go_at_call 123; refine (civil_any _ _ n1 n2).mono ?_; rintro e w' ⟨rfl, rfl⟩) | (go_at_call 196; refine (daysOf_any _ _ _ (by omega) (by omega)).mono ?_; rintro e w' ⟨rfl, rfl⟩))
    refine (NK.out _).mono ?_
    rintro e w0 ⟨rfl, rfl⟩
    go_wp2_with fail
    refine (dayValue_in _ _ r1 r2).mono ?_
    rintro e w1 ⟨rfl, hb1⟩
    obtain ⟨hc, hf⟩ := bcell hb1
    have hz : w.heap.size + 1 ≤ w1.heap.size := by have := hb1.size; simpa using this
    have hbw : Below w.heap.size w w1 := ((Below.refl _ _).alloc (Nat.le_refl _) _).trans (hb1.mono (by simp))
    go_wp2
    refine bodyPost_ret (v := .agg #[.int .i64 6, .int .i64 (Cal.num (mY n k) (mM n k) (mD n k)), .string ⟨#[]⟩, .slice none 0 0]) (by simp [results, Tryz.results167, go_sem, hc]) rfl ⟨rfl, by repeat' (first | exact hbw | exact Nat.le_refl _ | apply Below.setCell)⟩
  · obtain ⟨z1, z2⟩ := far (by omega)
    have R1 := Lib.hid (show Cal.num (mY n k) (mM n k) (mD n k) < -25567 ∨ 84005 < Cal.num (mY n k) (mM n k) (mD n k) by have := mt nr.1 hr; omega)
    rw [z1, z2]
    clear z1 z2 e1 e2 far near hyv e3 nr hr d2 num_ok
    go_enter Tryz.func167, Tryz.ntmps167
    go_wp2_with (first | (go_at_call 23; refine (outside_any _ _ _ _).mono ?_; rintro e w' ⟨rfl, rfl⟩) | (go_at_call 123; refine (civil_any _ _ n1 n2).mono ?_; rintro e w' ⟨rfl, rfl⟩) | (go_at_call 196; refine (daysOf_any _ _ _ (by omega) (by omega)).mono ?_; rintro e w' ⟨rfl, rfl⟩))
    refine (NK.out _).mono ?_
    rintro e w0 ⟨rfl, rfl⟩
    go_wp2_with fail
    refine (dayValue_off _ _ R1.out).mono ?_
    rintro e w1 ⟨rfl, hb1⟩
    obtain ⟨hc, hf⟩ := bcell hb1
    have hz : w.heap.size + 1 ≤ w1.heap.size := by have := hb1.size; simpa using this
    have hbw : Below w.heap.size w w1 := ((Below.refl _ _).alloc (Nat.le_refl _) _).trans (hb1.mono (by simp))
    go_wp2
    refine bodyPost_ret (v := .agg #[.int .i64 0, .int .i64 0, .string ⟨#[]⟩, .slice none 0 0]) (by simp [results, Tryz.results167, go_sem, hc]) rfl ⟨rfl, by repeat' (first | exact hbw | exact Nat.le_refl _ | apply Below.setCell)⟩
end Go.Proofs.YtpanbeoelbhhgaaGreatDoor
namespace Go.Proofs.YtpanbeoelbhhgaaGreatDoor
def zeroV : Val := ⟨0, 0, ⟨#[]⟩, []⟩
def truthV (b : Bool) : Val := ⟨7, if b then 1 else 0, ⟨#[]⟩, []⟩
def numeralV (n : Int) : Val := if outB n (-999999999999999) 999999999999999 = true then zeroV else ⟨2, n, ⟨#[]⟩, []⟩
def isT (v : Val) : Bool := decide (v.k = 7) && decide (v.n = 1)
def missV (v : Val) : Bool := decide (v.k = 0)
def dayV (n : Int) : Val := if outB n (-25567) 84005 = true then zeroV else ⟨6, n, ⟨#[]⟩, []⟩
noncomputable def monV (n k : Int) : Val := ⟨mK n k, mN n k, ⟨#[]⟩, []⟩
/-- a * b / c as the program tells it: beyond 2^64 - 1 the rounded quotient wraps -/
def prodN (a b : Int) : Nat := a.natAbs * b.natAbs
noncomputable def quoI (a b c : Int) : Int :=
  if w6 ((c.natAbs : Int) - (div64F (prodN a b / 18446744073709551616) (prodN a b % 18446744073709551616) c.natAbs).2) ≤ (div64F (prodN a b / 18446744073709551616) (prodN a b % 18446744073709551616) c.natAbs).2 then
    w6 ((div64F (prodN a b / 18446744073709551616) (prodN a b % 18446744073709551616) c.natAbs).1 + 1) else (div64F (prodN a b / 18446744073709551616) (prodN a b % 18446744073709551616) c.natAbs).1
noncomputable def dividedV (a b c : Int) : Val := if c.natAbs ≤ prodN a b / 18446744073709551616 then zeroV else if 999999999999999 < quoI a b c then zeroV else numeralV (if xor (xor (decide (a < 0)) (decide (b < 0))) (decide (c < 0)) = true then -quoI a b c else quoI a b c)
noncomputable def arithV (op a b : Int) : Val :=
  if op = 15 then numeralV (a + b) else if op = 16 then numeralV (a - b) else if op = 17 then dividedV a b 10000 else
  if b = 0 then zeroV else if op = 18 then dividedV a 10000 b else numeralV (a.fmod b)
def roundI (n : Int) : Int := if n < 0 then -(10000 * (((n.natAbs : Int) + 5000) / 10000)) else 10000 * (((n.natAbs : Int) + 5000) / 10000)
def singleV (op : Int) (v : Val) : Val :=
  if op = 20 then numeralV (-v.n) else if op = 21 then numeralV v.n.natAbs else if op = 22 then numeralV (10000 * (v.n / 10000)) else
  if op = 23 then numeralV (roundI v.n) else if op = 29 then numeralV (10000 * v.n) else numeralV (10000 * ((v.s.size : Int) + v.l.length))
def lowC (c : UInt8) : UInt8 := if 65 ≤ c.toNat ∧ c.toNat ≤ 90 then c + 32 else c
def lowS (s : ByteArray) : ByteArray := ⟨(s.data.toList.map lowC).toArray⟩
def wordS (op : Int) (a b : Val) : ByteArray := if op = 31 then a.s ++ b.s else lowS a.s
def wordedV (op : Int) (a b : Val) : Val := if 200 < (wordS op a b).size then zeroV else ⟨3, 0, wordS op a b, []⟩
noncomputable def ageN (a b : Int) : Int := if (monV a (12 * (Cal.cy b - Cal.cy a))).k = 0 ∨ b < (monV a (12 * (Cal.cy b - Cal.cy a))).n then Cal.cy b - Cal.cy a - 1 else Cal.cy b - Cal.cy a
noncomputable def ageV (a b : Int) : Val := if b < a then zeroV else numeralV (10000 * ageN a b)
noncomputable def datedV (op : Int) (a b : Val) : Val :=
  if op = 34 then numeralV (10000 * Cal.cy a.n) else if op = 35 then numeralV (10000 * Cal.cm a.n) else if op = 36 then numeralV (10000 * Cal.cd a.n) else
  if op = 37 then numeralV (10000 * (b.n - a.n)) else if op = 38 then ageV a.n b.n else if b.n.tmod 10000 = 0 then dayV (a.n + b.n.tdiv 10000) else zeroV
def betterB (most : Bool) (v out : Val) : Bool := if most then decide (out.n < v.n) else decide (v.n < out.n)
def bestV (most : Bool) : List Val → Val → Val
  | [], out => out
  | v :: r, out => bestV most r (if betterB most v out then v else out)
def extremeV (most : Bool) : List Val → Val
  | [] => zeroV
  | v :: r => bestV most r v
/-- the order of two values -/
def cmpVal (x y : Val) : Int := if ordI x.k y.k ≠ 0 then ordI x.k y.k else if ordI x.n y.n ≠ 0 then ordI x.n y.n else if Lib.compareBytes x.s.data.toList y.s.data.toList ≠ 0 then Lib.compareBytes x.s.data.toList y.s.data.toList else cmpL x.l y.l
def comparedB (op : Int) (a b : Val) : Bool :=
  if op = 4 then decide (cmpVal a b = 0) else if op = 5 then decide (cmpVal a b ≠ 0) else if op = 6 then decide (cmpVal a b < 0) else if op = 7 then decide (cmpVal a b ≤ 0) else
  if op = 8 then decide (0 < cmpVal a b) else if op = 9 then decide (0 ≤ cmpVal a b) else if op = 10 then b.l.contains a.n else if op = 11 then a.l.contains b.n else
  if op = 32 then Lib.hasPrefix a.s.data.toList b.s.data.toList else Lib.contains a.s.data.toList b.s.data.toList
def argAt (a : List Val) (i : Nat) : Val := a.getD i zeroV
noncomputable def applyV (op : Int) (a : List Val) : Val :=
  if op = 1 then truthV (!isT (argAt a 0)) else if op = 2 then truthV (a.all isT) else if op = 3 then truthV (a.any isT) else
  if (4 ≤ op ∧ op ≤ 11) ∨ op = 32 ∨ op = 33 then truthV (!a.any missV && comparedB op (argAt a 0) (argAt a 1)) else
  if a.any missV = true then zeroV else if op = 24 ∨ op = 25 then extremeV (decide (op = 25)) a else
  if 15 ≤ op ∧ op ≤ 19 then arithV op (argAt a 0).n (argAt a 1).n else if 34 ≤ op then datedV op (argAt a 0) (argAt a 1) else
  if op = 30 ∨ op = 31 then wordedV op (argAt a 0) (argAt a 1) else singleV op (argAt a 0)
def aboutV (op : Int) (b : BoundD) : Val :=
  if op = 13 then truthV b.asked else if op = 12 then truthV (b.asked && decide (1 < b.v.k)) else if b.asked = true ∧ b.v.k = 1 then numeralV (10000 * b.v.n) else numeralV 0
def zeroB : BoundD := ⟨⟨#[]⟩, [], zeroV, false⟩
/-- what a name stands for at a row -/
def findB (cells : List CellD) (bounds : List BoundD) (nm : ByteArray) (row : List Int) : BoundD :=
  match cells.find? (fun c => decide (c.nm = nm)) with
  | none => zeroB
  | some c => match bounds.reverse.find? (fun b => decide (b.nm = nm) && decide (b.row = row.take c.loops.length)) with
    | some b => b
    | none => zeroB
def findR (rows : List RowD) (nm : ByteArray) (row : List Int) : List Int :=
  match rows.reverse.find? (fun b => decide (b.nm = nm) && decide (b.row = row)) with
  | some r => r.nums
  | none => []
def sumN (l : List Val) : Int := (l.map Val.n).sum
def overV (op : Int) (vs : List Val) : Val :=
  if op = 2 then numeralV (10000 * ((vs.filter isT).length : Int)) else if op = 3 then truthV (decide (0 < (vs.filter isT).length)) else if op = 4 then truthV (decide ((vs.filter isT).length = vs.length)) else
  if op = 1 then numeralV (sumN (vs.filter fun v => !missV v)) else extremeV (decide (op = 6)) (vs.filter fun v => !missV v)
structure SceneD where
  cells : List CellD
  loops : List NestD
  bounds : List BoundD
  rows : List RowD
def headNm : List Ex → ByteArray
  | a :: _ => a.nm
  | [] => ⟨#[]⟩
mutual
noncomputable def Ex.val (S : SceneD) : Ex → List ByteArray → List Int → Val
  | .mk k op nm v ar, at_, row =>
    if k = 1 then v else
    if k = 2 then (if (findB S.cells S.bounds nm row).asked = false ∨ (findB S.cells S.bounds nm row).v.k ≤ 1 then zeroV else (findB S.cells S.bounds nm row).v) else
    if k = 3 then numeralV (10000 * row.getD (at_.findIdx (fun s => decide (s = nm))) 0) else
    if k = 5 then (match S.loops.find? (fun n => decide (n.nm = nm)) with
      | none => zeroV
      | some d => overV op (overVals S ar (d.loops ++ [d.nm]) (row.take d.loops.length) (findR S.rows nm (row.take d.loops.length)))) else
    if 12 ≤ op ∧ op ≤ 14 then aboutV op (findB S.cells S.bounds (headNm ar) row) else
    if op = 26 then (if isT (argAt (valsL S ar at_ row) 0) then argAt (valsL S ar at_ row) 1 else argAt (valsL S ar at_ row) 2) else
    if op = 27 then (if missV (argAt (valsL S ar at_ row) 0) then argAt (valsL S ar at_ row) 1 else argAt (valsL S ar at_ row) 0) else
    applyV op (valsL S ar at_ row)
noncomputable def overVals (S : SceneD) : List Ex → List ByteArray → List Int → List Int → List Val
  | [], _, _, _ => []
  | a :: _, at_, outer, nums => nums.map (fun n => a.val S at_ (outer ++ [n]))
noncomputable def valsL (S : SceneD) : List Ex → List ByteArray → List Int → List Val
  | [], _, _ => []
  | a :: r, at_, row => a.val S at_ row :: valsL S r at_ row
end
theorem val_eq (S : SceneD) (e : Ex) (at_ : List ByteArray) (row : List Int) : e.val S at_ row =
    if e.k = 1 then e.v else
    if e.k = 2 then (if (findB S.cells S.bounds e.nm row).asked = false ∨ (findB S.cells S.bounds e.nm row).v.k ≤ 1 then zeroV else (findB S.cells S.bounds e.nm row).v) else
    if e.k = 3 then numeralV (10000 * row.getD (at_.findIdx (fun s => decide (s = e.nm))) 0) else
    if e.k = 5 then (match S.loops.find? (fun n => decide (n.nm = e.nm)) with
      | none => zeroV
      | some d => overV e.op (overVals S e.ar (d.loops ++ [d.nm]) (row.take d.loops.length) (findR S.rows e.nm (row.take d.loops.length)))) else
    if 12 ≤ e.op ∧ e.op ≤ 14 then aboutV e.op (findB S.cells S.bounds (headNm e.ar) row) else
    if e.op = 26 then (if isT (argAt (valsL S e.ar at_ row) 0) then argAt (valsL S e.ar at_ row) 1 else argAt (valsL S e.ar at_ row) 2) else
    if e.op = 27 then (if missV (argAt (valsL S e.ar at_ row) 0) then argAt (valsL S e.ar at_ row) 1 else argAt (valsL S e.ar at_ row) 0) else
    applyV e.op (valsL S e.ar at_ row) := by
  cases e; rw [Ex.val]; rfl
theorem valsL_map (S : SceneD) (at_ : List ByteArray) (row : List Int) : ∀ ar : List Ex, valsL S ar at_ row = ar.map (fun a => a.val S at_ row)
  | [] => by simp [valsL]
  | a :: r => by rw [valsL, valsL_map S at_ row r]; rfl
end Go.Proofs.YtpanbeoelbhhgaaGreatDoor
namespace Go.Proofs.YtpanbeoelbhhgaaGreatDoor
/-- what a sound value is -/
structure ChkP (v : Val) : Prop where
  k : 0 ≤ v.k ∧ v.k ≤ 7
  u : unusedB v = false
  r : loOf v.k ≤ v.n ∧ v.n ≤ hiOf v.k
  sz : v.s.size ≤ 200 ∧ v.l.length ≤ 40
  st : badStr v.s = false
  c : v.l.any badCode = false
  o : unsorted v.l = false
theorem chkP_of {v : Val} (h : checkV v = 0) : ChkP v := by
  unfold checkV at h
  by_cases h1 : outB v.k 0 7 = true
  · rw [if_pos h1] at h; exact absurd h (by decide)
  rw [if_neg h1] at h
  by_cases h2 : unusedB v = true
  · rw [if_pos h2] at h; exact absurd h (by decide)
  rw [if_neg h2] at h
  by_cases h3 : outB v.n (loOf v.k) (hiOf v.k) = true
  · rw [if_pos h3] at h; exact absurd h (by decide)
  rw [if_neg h3] at h
  by_cases h4 : 200 < v.s.size ∨ 40 < v.l.length
  · rw [if_pos h4] at h; exact absurd h (by decide)
  rw [if_neg h4] at h
  by_cases h5 : badStr v.s = true
  · rw [if_pos h5] at h; exact absurd h (by decide)
  rw [if_neg h5] at h
  by_cases h6 : v.l.any badCode = true
  · rw [if_pos h6] at h; exact absurd h (by decide)
  rw [if_neg h6] at h
  by_cases h7 : unsorted v.l = true
  · rw [if_pos h7] at h; exact absurd h (by decide)
  exact ⟨outB_no (Bool.not_eq_true _ ▸ h1), by simpa using h2, outB_no (Bool.not_eq_true _ ▸ h3), by omega, by simpa using h5, by simpa using h6, by simpa using h7⟩
theorem chkP_to {v : Val} (h : ChkP v) : checkV v = 0 := by
  unfold checkV
  rw [if_neg (by rw [outB_false h.k.1 h.k.2]; decide), if_neg (by rw [h.u]; decide), if_neg (by rw [outB_false h.r.1 h.r.2]; decide), if_neg (by have := h.sz; omega), if_neg (by rw [h.st]; decide), if_neg (by rw [h.c]; decide), if_neg (by rw [h.o]; decide)]
/-- a value without text and set -/
theorem chk_bare {k n : Int} (hk : 0 ≤ k ∧ k ≤ 7) (hn : loOf k ≤ n ∧ n ≤ hiOf k) (hu : usesB k = false → n = 0) : checkV ⟨k, n, ⟨#[]⟩, []⟩ = 0 := by
  refine chkP_to ⟨hk, ?_, hn, ⟨Nat.zero_le _, Nat.zero_le _⟩, rfl, rfl, rfl⟩
  unfold unusedB
  have e : (⟨#[]⟩ : ByteArray).toList = [] := by rw [ByteArray.toList_eq]
  cases h : usesB k
  · simp [hu h, e]
  · simp [e]
/-- a sound value of a kind, or none -/
def okV (k : Int) (v : Val) : Prop := v = zeroV ∨ (v.k = k ∧ checkV v = 0)
theorem ok_zero (k : Int) : okV k zeroV := .inl rfl
theorem ok_truth (b : Bool) : okV 7 (truthV b) := by
  refine .inr ⟨rfl, ?_⟩
  unfold truthV
  cases b
  · exact chk_bare (by decide) (by decide) (by decide)
  · exact chk_bare (by decide) (by decide) (by decide)
theorem ok_num (n : Int) : okV 2 (numeralV n) := by
  unfold numeralV
  split
  · exact ok_zero _
  · rename_i h
    have := outB_no (Bool.not_eq_true _ ▸ h)
    exact .inr ⟨rfl, chk_bare (by decide) (by have e1 : loOf 2 = -999999999999999 := by decide
                                              have e2 : hiOf 2 = 999999999999999 := by decide
                                              rw [e1, e2]; exact this) (fun h => absurd h (by decide))⟩
theorem ok_day (n : Int) : okV 6 (dayV n) := by
  unfold dayV
  split
  · exact ok_zero _
  · rename_i h
    have := outB_no (Bool.not_eq_true _ ▸ h)
    exact .inr ⟨rfl, chk_bare (by decide) (by have e1 : loOf 6 = -25567 := by decide
                                              have e2 : hiOf 6 = 84005 := by decide
                                              rw [e1, e2]; exact this) (fun h => absurd h (by decide))⟩
theorem ok_divided (a b c : Int) : okV 2 (dividedV a b c) := by
  unfold dividedV
  split
  · exact ok_zero _
  · split
    · exact ok_zero _
    · exact ok_num _
theorem ok_arith (op a b : Int) : okV 2 (arithV op a b) := by
  unfold arithV
  repeat' split
  all_goals first | exact ok_num _ | exact ok_divided _ _ _ | exact ok_zero _
theorem ok_single (op : Int) (v : Val) : okV 2 (singleV op v) := by
  unfold singleV
  repeat' split
  all_goals exact ok_num _
theorem ok_age (a b : Int) : okV 2 (ageV a b) := by
  unfold ageV
  split
  · exact ok_zero _
  · exact ok_num _
theorem ok_dated (op : Int) (a b : Val) (h : op ≠ 39) (h2 : op ≤ 39) (h1 : 34 ≤ op) : okV 2 (datedV op a b) := by
  unfold datedV
  split
  · exact ok_num _
  split
  · exact ok_num _
  split
  · exact ok_num _
  split
  · exact ok_num _
  split
  · exact ok_age _ _
  · omega
theorem ok_later (a b : Val) : okV 6 (datedV 39 a b) := by
  unfold datedV
  rw [if_neg (by decide), if_neg (by decide), if_neg (by decide), if_neg (by decide), if_neg (by decide)]
  split
  · exact ok_day _
  · exact ok_zero _
theorem best_mem (most : Bool) : ∀ (l : List Val) (out : Val), bestV most l out = out ∨ bestV most l out ∈ l
  | [], out => .inl rfl
  | v :: r, out => by
    rw [bestV]
    split
    · rcases best_mem most r v with h | h
      · exact .inr (by rw [h]; exact List.mem_cons_self ..)
      · exact .inr (List.mem_cons_of_mem _ h)
    · rcases best_mem most r out with h | h
      · exact .inl h
      · exact .inr (List.mem_cons_of_mem _ h)
theorem ok_extreme (most : Bool) (k : Int) (l : List Val) (h : ∀ v ∈ l, okV k v) : okV k (extremeV most l) := by
  cases l with
  | nil => exact ok_zero _
  | cons v r =>
    rw [extremeV]
    rcases best_mem most r v with e | e
    · rw [e]; exact h v (List.mem_cons_self ..)
    · exact h _ (List.mem_cons_of_mem _ e)
theorem low_good (c : UInt8) (h : badByte c = false) : badByte (lowC c) = false := by
  unfold badByte at *
  rw [Bool.or_eq_false_iff, decide_eq_false_iff_not, decide_eq_false_iff_not] at *
  unfold lowC
  split
  · rename_i hc
    have e : (c + 32).toNat = c.toNat + 32 := by rw [UInt8.toNat_add]; simp; omega
    rw [e]
    omega
  · exact h
theorem ok_word (op : Int) (a b : Val) (ha : badStr a.s = false) (hb : badStr b.s = false) : okV 3 (wordedV op a b) := by
  unfold wordedV
  split
  · exact ok_zero _
  · rename_i hs
    refine .inr ⟨rfl, chkP_to ⟨⟨by show (0 : Int) ≤ 3; decide, by show (3 : Int) ≤ 7; decide⟩, ?_, ⟨by show loOf 3 ≤ 0; decide, by show 0 ≤ hiOf 3; decide⟩, ⟨by show (wordS op a b).size ≤ 200; omega, Nat.zero_le _⟩, ?_, rfl, rfl⟩⟩
    · unfold unusedB; rfl
    · show badStr (wordS op a b) = false
      unfold wordS
      split
      · unfold badStr at *
        have e : (a.s ++ b.s).data.toList = a.s.data.toList ++ b.s.data.toList := by rw [ByteArray.data_append]; simp
        rw [e, List.any_append, ha, hb]; rfl
      · unfold badStr at *
        show (lowS a.s).data.toList.any badByte = false
        unfold lowS
        rw [List.any_eq_false] at ha ⊢
        intro c hc
        simp only [List.mem_map] at hc
        obtain ⟨d, hd, rfl⟩ := hc
        rw [low_good d (by simpa using ha d hd)]; decide
theorem ok_str {k : Int} {v : Val} (h : okV k v) : badStr v.s = false := by
  rcases h with h | h
  · rw [h]; decide
  · exact (chkP_of h.2).st
/-- kinds beside values -/
inductive F2 : List Int → List Val → Prop
  | nil : F2 [] []
  | cons {k : Int} {v : Val} {ks : List Int} {vs : List Val} (h : okV k v) (t : F2 ks vs) : F2 (k :: ks) (v :: vs)
theorem ok_getD {ks : List Int} {vs : List Val} (h : F2 ks vs) (i : Nat) (hi : i < ks.length) : okV (kAt ks i) (argAt vs i) := by
  induction h generalizing i with
  | nil => cases hi
  | cons h1 _ ih =>
    cases i with
    | zero => exact h1
    | succ i => exact ih i (by simpa using hi)
theorem ok_all {ks : List Int} {vs : List Val} (h : F2 ks vs) {k : Int} (hk : allB ks k = true) : ∀ v ∈ vs, okV k v := by
  unfold allB at hk
  induction h with
  | nil => intro v hv; cases hv
  | cons h1 _ ih =>
    rw [List.all_cons, Bool.and_eq_true, decide_eq_true_iff] at hk
    intro v hv
    rcases List.mem_cons.1 hv with e | e
    · rw [e, ← hk.1]; exact h1
    · exact ih hk.2 v e
theorem fit_ok {ok : Bool} {k r : Int} (h : fitT ok k = (r, 0)) : ok = true ∧ k = r := by
  unfold fitT at h
  cases ok
  · exact absurd (show (8 : Int) = 0 from congrArg Prod.snd h) (by decide)
  · exact ⟨rfl, congrArg Prod.fst h⟩
/-- operations keep kinds -/
theorem ok_apply {op : Int} {ks : List Int} {vs : List Val} {k : Int} (ho : 1 ≤ op ∧ op ≤ 39) (hl : (arOf op).1 ≤ ks.length) (hv : F2 ks vs) (ht : opT op ks = (k, 0)) (h14 : ¬ (12 ≤ op ∧ op ≤ 14)) (h26 : op ≠ 26) (h27 : op ≠ 27) : okV k (applyV op vs) := by
  unfold applyV
  unfold opT at ht
  by_cases c1 : op = 1 ∨ op = 2 ∨ op = 3
  · rw [if_pos c1] at ht
    obtain ⟨-, rfl⟩ := fit_ok ht
    rcases c1 with rfl | rfl | rfl
    · rw [if_pos rfl]; exact ok_truth _
    · rw [if_neg (by decide), if_pos rfl]; exact ok_truth _
    · rw [if_neg (by decide), if_neg (by decide), if_pos rfl]; exact ok_truth _
  rw [if_neg c1] at ht
  rw [if_neg (by omega), if_neg (by omega), if_neg (by omega)]
  by_cases c2 : (4 ≤ op ∧ op ≤ 11) ∨ op = 32 ∨ op = 33
  · rw [if_pos c2]
    have e : k = 7 := by
      by_cases d1 : op = 4 ∨ op = 5
      · rw [if_pos d1] at ht; exact (fit_ok ht).2.symm
      rw [if_neg d1] at ht
      by_cases d2 : op = 6 ∨ op = 7 ∨ op = 8 ∨ op = 9
      · rw [if_pos d2] at ht; exact (fit_ok ht).2.symm
      rw [if_neg d2] at ht
      by_cases d3 : op = 10
      · rw [if_pos d3] at ht; exact (fit_ok ht).2.symm
      rw [if_neg d3] at ht
      by_cases d4 : op = 11
      · rw [if_pos d4] at ht; exact (fit_ok ht).2.symm
      rw [if_neg d4, if_neg (by omega), if_neg (by omega), if_neg (by omega), if_neg (by omega), if_neg (by omega), if_neg (by omega), if_neg (by omega), if_neg (by omega), if_pos (by omega)] at ht
      exact (fit_ok ht).2.symm
    rw [e]; exact ok_truth _
  rw [if_neg c2]
  rw [if_neg (by omega), if_neg (by omega), if_neg (by omega), if_neg (by omega), if_neg (by omega), if_neg (by omega)] at ht
  by_cases hm : vs.any missV = true
  · rw [if_pos hm]; exact ok_zero _
  rw [if_neg hm]
  by_cases c3 : op = 24 ∨ op = 25
  · rw [if_pos c3] at ht ⊢
    obtain ⟨h1, h2⟩ := fit_ok ht
    rw [Bool.or_eq_true] at h1
    have hl0 : 0 < ks.length := by rcases c3 with rfl | rfl <;> exact Nat.lt_of_lt_of_le (by decide) hl
    have hk0 : ∀ {q}, allB ks q = true → kAt ks 0 = q := fun {q} hq => by
      unfold allB at hq
      unfold kAt
      rw [List.getD_eq_getElem?_getD, List.getElem?_eq_getElem hl0]
      have := List.all_eq_true.1 hq _ (List.getElem_mem hl0)
      simpa using this
    rcases h1 with h1 | h1
    · rw [← h2, hk0 h1]; exact ok_extreme _ _ _ (ok_all hv h1)
    · rw [← h2, hk0 h1]; exact ok_extreme _ _ _ (ok_all hv h1)
  rw [if_neg c3] at ht ⊢
  rw [if_neg h26, if_neg h27] at ht
  by_cases c4 : 15 ≤ op ∧ op ≤ 19
  · rw [if_pos c4]
    rw [if_neg (by omega), if_neg (by omega), if_neg (by omega), if_neg (by omega), if_neg (by omega), if_neg (by omega)] at ht
    rw [← (fit_ok ht).2]; exact ok_arith _ _ _
  rw [if_neg c4]
  by_cases c5 : 34 ≤ op
  · rw [if_pos c5]
    rw [if_neg (by omega), if_neg (by omega), if_neg (by omega), if_neg (by omega)] at ht
    by_cases c6 : op = 39
    · subst c6
      rw [if_neg (by decide), if_pos rfl] at ht
      rw [← (fit_ok ht).2]; exact ok_later _ _
    · rw [if_pos (by omega)] at ht
      rw [← (fit_ok ht).2]; exact ok_dated _ _ _ c6 ho.2 c5
  rw [if_neg c5]
  by_cases c7 : op = 30 ∨ op = 31
  · rw [if_pos c7]
    rw [if_neg (by omega), if_neg (by omega), if_pos c7] at ht
    obtain ⟨h1, h2⟩ := fit_ok ht
    rw [← h2]
    have hz : ∀ i, badStr (argAt vs i).s = false := fun i => by
      unfold argAt
      rw [List.getD_eq_getElem?_getD]
      rcases h : vs[i]? with _ | v
      · decide
      · exact ok_str (ok_all hv h1 v (List.mem_of_getElem? h))
    exact ok_word _ _ _ (hz 0) (hz 1)
  rw [if_neg c7]
  have e : k = 2 := by
    by_cases d1 : op = 28
    · rw [if_pos d1] at ht; exact (fit_ok ht).2.symm
    rw [if_neg d1] at ht
    by_cases d2 : op = 29
    · rw [if_pos d2] at ht; exact (fit_ok ht).2.symm
    rw [if_neg d2, if_neg c7, if_neg (by omega), if_neg (by omega), if_neg (by omega)] at ht
    exact (fit_ok ht).2.symm
  rw [e]; exact ok_single _ _
theorem ok_about (op : Int) (b : BoundD) : okV (if op = 14 then 2 else 7) (aboutV op b) ∨ ¬ (12 ≤ op ∧ op ≤ 14) := by
  by_cases h : 12 ≤ op ∧ op ≤ 14
  · left
    unfold aboutV
    by_cases h1 : op = 13
    · rw [if_pos h1, if_neg (by omega)]; exact ok_truth _
    rw [if_neg h1]
    by_cases h2 : op = 12
    · rw [if_pos h2, if_neg (by omega)]; exact ok_truth _
    rw [if_neg h2, if_pos (by omega)]
    split <;> exact ok_num _
  · exact .inr h
theorem ok_over {op k r : Int} {vs : List Val} (hv : ∀ v ∈ vs, okV k v) (_ho : 1 ≤ op ∧ op ≤ 6) (ht : overT op k = (r, 0)) : okV r (overV op vs) := by
  unfold overT at ht
  unfold overV
  by_cases c1 : op = 1
  · rw [if_pos c1] at ht
    rw [if_neg (by omega), if_neg (by omega), if_neg (by omega), if_pos c1, ← (fit_ok ht).2]; exact ok_num _
  rw [if_neg c1] at ht
  by_cases c2 : op = 2
  · rw [if_pos c2] at ht
    rw [if_pos c2, ← (fit_ok ht).2]; exact ok_num _
  rw [if_neg c2] at ht
  rw [if_neg c2]
  by_cases c3 : op = 3
  · rw [if_pos (.inl c3)] at ht
    rw [if_pos c3, ← (fit_ok ht).2]; exact ok_truth _
  by_cases c4 : op = 4
  · rw [if_pos (.inr c4)] at ht
    rw [if_neg c3, if_pos c4, ← (fit_ok ht).2]; exact ok_truth _
  rw [if_neg (by omega)] at ht
  rw [if_neg c3, if_neg c4, if_neg c1, ← (fit_ok ht).2]
  exact ok_extreme _ _ _ (fun v h => hv v (List.mem_filter.1 h).1)
/-- what a right scene says of its bounds -/
def SceneOk (S : SceneD) : Prop := WOk S.cells S.loops ∧ ∀ c ∈ S.cells, ∀ b ∈ S.bounds, b.nm = c.nm → checkV b.v = 0 ∧ (1 < b.v.k → b.v.k = c.kind)
theorem kindsL_zero {cells : List CellD} {loops : List NestD} {at_ : List ByteArray} : ∀ {ar : List Ex} {ks ks0 : List Int}, kindsL cells loops ar at_ ks0 = (0, ks) → ks = ks0 ++ ar.map (fun a => (a.kind cells loops at_).1) ∧ ∀ a ∈ ar, (a.kind cells loops at_).2 = 0
  | [], ks, ks0, h => by
    rw [kindsL] at h
    have e : ks0 = ks := congrArg Prod.snd h
    exact ⟨by rw [e]; simp, fun a ha => by cases ha⟩
  | a :: r, ks, ks0, h => by
    rw [kindsL] at h
    by_cases h0 : (a.kind cells loops at_).2 = 0
    · rw [if_neg (by rw [h0]; decide)] at h
      obtain ⟨h1, h2⟩ := kindsL_zero h
      refine ⟨by rw [h1]; simp, fun b hb => ?_⟩
      rcases List.mem_cons.1 hb with e | e
      · rw [e]; exact h0
      · exact h2 b e
    · rw [if_pos h0] at h
      exact absurd (congrArg Prod.fst h) h0
theorem part_const {e : Ex} (h : partF e = 0) (hk : e.k = 1) : checkV e.v = 0 := by
  unfold partF partB at h
  by_cases c1 : outB e.k 1 5 = true
  · rw [if_pos c1] at h; exact absurd h (by decide)
  rw [if_neg c1, if_neg (by omega), if_neg (by omega)] at h
  by_cases c4 : extraB e.k e.op e.nm e.v e.ar.length = true
  · rw [if_pos c4] at h; exact absurd h (by decide)
  rw [if_neg c4, if_pos hk] at h
  split at h
  · exact absurd h (by decide)
  · exact h
theorem forall2_map {α : Type} {f : α → Int} {g : α → Val} : ∀ {l : List α}, (∀ a ∈ l, okV (f a) (g a)) → F2 (l.map f) (l.map g)
  | [], _ => .nil
  | a :: _r, h => .cons (h a (List.mem_cons_self ..)) (forall2_map (fun b hb => h b (List.mem_cons_of_mem _ hb)))
/-- THE LAW: a right expression has a sound value of its kind, or none -/
theorem val_ok {S : SceneD} (hS : SceneOk S) (e : Ex) : e.fault = 0 → ∀ (at_ : List ByteArray) (row : List Int) (k : Int), e.kind S.cells S.loops at_ = (k, 0) → okV k (e.val S at_ row) := by
  induction e using Ex.ind with
  | h e ih =>
    intro hf at_ row k hk
    have P := partOk (fault_part hf)
    have hA := fault_arg hf
    have hkk := P.k
    rw [kind_eq] at hk
    rw [val_eq]
    by_cases k1 : e.k = 1
    · rw [if_pos k1] at hk ⊢
      have e1 : e.v.k = k := congrArg Prod.fst hk
      exact .inr ⟨e1, part_const (fault_part hf) k1⟩
    rw [if_neg k1] at hk ⊢
    by_cases k2 : e.k = 2
    · rw [if_pos k2] at hk ⊢
      split
      · exact ok_zero _
      · rename_i hb
        unfold cellK at hk
        split at hk
        · rename_i c hc
          have hcm := List.mem_of_find?_eq_some hc
          have hcn := List.find?_some hc
          rw [Bool.and_eq_true, decide_eq_true_iff] at hcn
          have e1 : c.kind = k := congrArg Prod.fst hk
          unfold findB at hb ⊢
          rcases hf2 : S.cells.find? (fun c => decide (c.nm = e.nm)) with _ | d
          · exact absurd (List.find?_eq_none.1 hf2 c hcm) (by simp [hcn.1])
          · have hdm := List.mem_of_find?_eq_some hf2
            have hdn := List.find?_some hf2
            rw [decide_eq_true_iff] at hdn
            obtain rfl := one_of (f := CellD.nm) hS.1.oneC hdm hcm (by rw [hdn, hcn.1])
            rw [hf2] at hb ⊢
            simp only at hb ⊢
            rcases hf3 : S.bounds.reverse.find? (fun b => decide (b.nm = e.nm) && decide (b.row = row.take d.loops.length)) with _ | b
            · rw [hf3] at hb
              exact absurd (.inl rfl) hb
            · rw [hf3] at hb ⊢
              have hbm := List.mem_reverse.1 (List.mem_of_find?_eq_some hf3)
              have hbn := List.find?_some hf3
              rw [Bool.and_eq_true, decide_eq_true_iff] at hbn
              obtain ⟨h1, h2⟩ := hS.2 d hdm b hbm (by rw [hbn.1, hdn])
              simp only at hb
              have h3 : 1 < b.v.k := by
                rcases Int.lt_or_le 1 b.v.k with h | h
                · exact h
                · exact absurd (.inr h) hb
              exact .inr ⟨by rw [h2 h3, e1], h1⟩
        · exact absurd (show (5 : Int) = 0 from congrArg Prod.snd hk) (by decide)
    rw [if_neg k2] at hk ⊢
    by_cases k3 : e.k = 3
    · rw [if_pos k3] at hk ⊢
      split at hk
      · rw [show k = 2 from (congrArg Prod.fst hk).symm]; exact ok_num _
      · exact absurd (show (5 : Int) = 0 from congrArg Prod.snd hk) (by decide)
    rw [if_neg k3] at hk ⊢
    by_cases k5 : e.k = 5
    · rw [if_pos k5] at hk ⊢
      unfold nestK at hk
      rcases hf2 : S.loops.find? (fun n => decide (n.nm = e.nm)) with _ | d
      · rw [hf2] at hk
        exact absurd (show (5 : Int) = 0 from congrArg Prod.snd hk) (by decide)
      · rw [hf2] at hk ⊢
        simp only at hk ⊢
        by_cases hb : beginsB d.loops at_ = true
        · rw [if_pos hb] at hk
          simp only at hk
          have h1 := P.a5 k5
          match hr : e.ar, h1 with
          | [a], _ =>
            rw [hr, overL] at hk
            by_cases h0 : (a.kind S.cells S.loops (d.loops ++ [d.nm])).2 = 0
            · rw [if_neg (by rw [h0]; decide)] at hk
              refine ok_over (fun v hv => ?_) (P.op5 k5) hk
              rw [overVals] at hv
              obtain ⟨n, -, rfl⟩ := List.mem_map.1 hv
              exact ih a (by rw [hr]; exact List.mem_cons_self ..) (hA a (by rw [hr]; exact List.mem_cons_self ..)) _ _ _ (Prod.ext rfl h0)
            · rw [if_pos h0] at hk; exact absurd (congrArg Prod.snd hk) h0
        · rw [if_neg hb] at hk; exact absurd (show (5 : Int) = 0 from congrArg Prod.snd hk) (by decide)
    rw [if_neg k5] at hk ⊢
    have k4 : e.k = 4 := by omega
    obtain ⟨o1, o2⟩ := P.op4 k4
    have hal := P.a4 k4
    by_cases h0 : (kindsL S.cells S.loops e.ar at_ []).1 = 0
    · rw [if_neg (by rw [h0]; decide)] at hk
      obtain ⟨hks, hz⟩ := kindsL_zero (ks := (kindsL S.cells S.loops e.ar at_ []).2) (ks0 := []) (Prod.ext h0 rfl)
      rw [List.nil_append] at hks
      rw [hks] at hk
      rw [valsL_map]
      have hF : F2 (e.ar.map (fun a => (a.kind S.cells S.loops at_).1)) (e.ar.map (fun a => a.val S at_ row)) :=
        forall2_map (fun a ha => ih a ha (hA a ha) at_ row _ (Prod.ext rfl (hz a ha)))
      by_cases c1 : 12 ≤ e.op ∧ e.op ≤ 14
      · rw [if_pos c1]
        have e1 : k = if e.op = 14 then 2 else 7 := by
          unfold opT at hk
          rw [if_neg (by omega), if_neg (by omega), if_neg (by omega), if_neg (by omega), if_neg (by omega)] at hk
          by_cases d1 : e.op = 12 ∨ e.op = 13
          · rw [if_pos d1] at hk; rw [if_neg (by omega)]; exact (congrArg Prod.fst hk).symm
          · rw [if_neg d1, if_pos (by omega)] at hk; rw [if_pos (by omega)]; exact (congrArg Prod.fst hk).symm
        rw [e1]
        exact (ok_about e.op _).resolve_right (fun h => h c1)
      rw [if_neg c1]
      by_cases c2 : e.op = 26
      · rw [if_pos c2]
        rw [c2] at hk hal
        have hl3 : 3 ≤ e.ar.length := hal.1
        obtain ⟨h1, h2⟩ := fit_ok (show fitT _ (kAt _ 1) = (k, 0) from hk)
        rw [Bool.and_eq_true, beq_iff_eq, beq_iff_eq] at h1
        split
        · rw [← h2]; exact ok_getD hF 1 (by rw [List.length_map]; omega)
        · rw [← h2, h1.2]; exact ok_getD hF 2 (by rw [List.length_map]; omega)
      rw [if_neg c2]
      by_cases c3 : e.op = 27
      · rw [if_pos c3]
        rw [c3] at hk hal
        have hl2 : 2 ≤ e.ar.length := hal.1
        obtain ⟨h1, h2⟩ := fit_ok (show fitT _ (kAt _ 0) = (k, 0) from hk)
        rw [beq_iff_eq] at h1
        split
        · rw [← h2, h1]; exact ok_getD hF 1 (by rw [List.length_map]; omega)
        · rw [← h2]; exact ok_getD hF 0 (by rw [List.length_map]; omega)
      rw [if_neg c3]
      exact ok_apply ⟨o1, o2⟩ (by rw [List.length_map]; exact hal.1) hF hk c1 c2 c3
    · rw [if_pos h0] at hk; exact absurd (congrArg Prod.snd hk) h0
end Go.Proofs.YtpanbeoelbhhgaaGreatDoor
namespace Go.Proofs.YtpanbeoelbhhgaaGreatDoor
theorem split_space {a b X Y : List UInt8} (ha : ∀ c ∈ a, c ≠ 32) (hb : ∀ c ∈ b, c ≠ 32) (hX : X = [] ∨ ∃ r, X = 32 :: r) (hY : Y = [] ∨ ∃ r, Y = 32 :: r) (h : a ++ X = b ++ Y) : a = b ∧ X = Y := by
  induction a generalizing b with
  | nil =>
    cases b with
    | nil => exact ⟨rfl, by simpa using h⟩
    | cons c r =>
      rw [List.nil_append] at h
      rcases hX with e | ⟨q, e⟩
      · rw [e] at h; cases h
      · rw [e, List.cons_append] at h
        injection h with h1 _
        exact absurd h1.symm (hb c (List.mem_cons_self ..))
  | cons d q ih =>
    cases b with
    | nil =>
      rw [List.nil_append] at h
      rcases hY with e | ⟨r, e⟩
      · rw [e] at h; cases h
      · rw [e, List.cons_append] at h
        injection h with h1 _
        exact absurd h1 (ha d (List.mem_cons_self ..))
    | cons c r =>
      rw [List.cons_append, List.cons_append] at h
      injection h with h1 h2
      obtain ⟨e1, e2⟩ := ih (fun x hx => ha x (List.mem_cons_of_mem _ hx)) (fun x hx => hb x (List.mem_cons_of_mem _ hx)) h2
      exact ⟨by rw [h1, e1], e2⟩
theorem itoa_pos {n : Int} (h : 1 ≤ n) : Lib.itoa n = Lib.decDigits n.toNat := by unfold Lib.itoa; rw [if_neg (by omega)]
theorem itoa_no32 {n : Int} (h : 1 ≤ n) : ∀ c ∈ Lib.itoa n, c ≠ 32 := by
  rw [itoa_pos h]
  intro c hc e
  have := Dig.dig_dec n.toNat c hc
  subst e
  revert this
  unfold Dig.isDig
  decide
theorem itoa_inj {n m : Int} (hn : 1 ≤ n) (hm : 1 ≤ m) (h : Lib.itoa n = Lib.itoa m) : n = m := by
  rw [itoa_pos hn, itoa_pos hm] at h
  have := congrArg Dig.digVal h
  rw [Dig.digVal_dec, Dig.digVal_dec] at this
  omega
theorem tail_form : ∀ (row : List Int), row.flatMap (fun n => 32 :: Lib.itoa n) = [] ∨ ∃ r, row.flatMap (fun n => 32 :: Lib.itoa n) = 32 :: r
  | [] => .inl rfl
  | _ :: _ => .inr ⟨_, rfl⟩
theorem tail_inj : ∀ {row row' : List Int}, codesOk row → codesOk row' → row.flatMap (fun n => 32 :: Lib.itoa n) = row'.flatMap (fun n => 32 :: Lib.itoa n) → row = row'
  | [], [], _, _, _ => rfl
  | [], b :: r, _, _, h => by simp at h
  | a :: q, [], _, _, h => by simp at h
  | a :: q, b :: r, h1, h2, h => by
    simp only [List.flatMap_cons, List.cons_append, List.cons.injEq, true_and] at h
    have ha := (h1 a (List.mem_cons_self ..)).1
    have hb := (h2 b (List.mem_cons_self ..)).1
    obtain ⟨e1, e2⟩ := split_space (itoa_no32 ha) (itoa_no32 hb) (tail_form q) (tail_form r) h
    rw [itoa_inj ha hb e1, tail_inj (fun x hx => h1 x (List.mem_cons_of_mem _ hx)) (fun x hx => h2 x (List.mem_cons_of_mem _ hx)) e2]
/-- a name has no space -/
def noSp (s : ByteArray) : Prop := ∀ c ∈ s.data.toList, c ≠ 32
theorem key_inj {nm nm' : ByteArray} {row row' : List Int} (h1 : noSp nm) (h2 : noSp nm') (h3 : codesOk row) (h4 : codesOk row') (h : rowKeyL nm.data.toList row = rowKeyL nm'.data.toList row') : nm = nm' ∧ row = row' := by
  unfold rowKeyL at h
  obtain ⟨e1, e2⟩ := split_space h1 h2 (tail_form row) (tail_form row') h
  exact ⟨ByteArray.ext (Array.toList_inj.1 e1), tail_inj h3 h4 e2⟩
theorem name_noSp {s : ByteArray} (h : isNameF s.data.toList = true) : noSp s := by
  unfold isNameF at h
  rw [Bool.and_eq_true] at h
  have h2 := List.all_eq_true.1 h.2
  intro c hc e
  have := h2 c hc
  rw [e] at this
  revert this
  decide
/-- what a right scene says -/
structure ScOk (S : SceneD) : Prop where
  w : worldF S.cells S.loops = 0
  cn : ∀ c ∈ S.cells, isNameF c.nm.data.toList = true
  ln : ∀ c ∈ S.loops, isNameF c.nm.data.toList = true
  b : ∀ b ∈ S.bounds, ∃ c ∈ S.cells, c.nm = b.nm ∧ b.row.length = c.loops.length ∧ codesOk b.row ∧ checkV b.v = 0 ∧ (1 < b.v.k → b.v.k = c.kind)
  r : ∀ r ∈ S.rows, ∃ n ∈ S.loops, n.nm = r.nm ∧ r.row.length = n.loops.length ∧ codesOk r.row ∧ numsF none r.nums = 0
theorem names_ok {cells : List CellD} {loops : List NestD} (h : worldF cells loops = 0) : (∀ c ∈ cells, isNameF c.nm.data.toList = true) ∧ (∀ n ∈ loops, isNameF n.nm.data.toList = true) := by
  unfold worldF at h
  by_cases c1 : firstF cellFault [] cells = 0
  · rw [if_neg (by rw [c1]; decide)] at h
    by_cases c2 : firstF nestFault [] loops = 0
    · refine ⟨fun c hc => ?_, fun c hc => ?_⟩
      · obtain ⟨i, hi, rfl⟩ := List.mem_iff_getElem.1 hc
        have := firstF_ok c1 i hi
        unfold cellFault at this
        split at this
        · exact absurd this (by decide)
        · rename_i hk; simpa using hk
      · obtain ⟨i, hi, rfl⟩ := List.mem_iff_getElem.1 hc
        have := firstF_ok c2 i hi
        unfold nestFault at this
        split at this
        · exact absurd this (by decide)
        · rename_i hk; simpa using hk
    · rw [if_pos c2] at h; exact absurd h c2
  · rw [if_pos c1] at h; exact absurd h c1
theorem scOk_of {S : SceneD} (h : sceneF S.cells S.loops S.bounds S.rows = 0) : ScOk S := by
  unfold sceneF at h
  by_cases c0 : worldF S.cells S.loops = 0
  · rw [if_neg (by rw [c0]; decide)] at h
    split at h
    · exact absurd h (by decide)
    by_cases c1 : firstF (boundF S.cells) [] S.bounds = 0
    · rw [if_neg (by rw [c1]; decide)] at h
      refine ⟨c0, (names_ok c0).1, (names_ok c0).2, fun b hb => ?_, fun r hr => ?_⟩
      · obtain ⟨i, hi, rfl⟩ := List.mem_iff_getElem.1 hb
        have := firstF_ok c1 i hi
        unfold boundF at this
        split at this
        · exact absurd this (by decide)
        rename_i c hc
        have hq := List.find?_some hc
        rw [decide_eq_true_iff] at hq
        by_cases h0 : rowF S.bounds[i].row c.loops.length = 0
        · rw [if_neg (by rw [h0]; decide)] at this
          obtain ⟨h1, h2⟩ := rowF_ok h0
          by_cases h3 : checkV S.bounds[i].v = 0
          · rw [if_neg (by rw [h3]; decide)] at this
            refine ⟨c, List.mem_of_find?_eq_some hc, hq, h1, h2, h3, fun h4 => ?_⟩
            by_cases h5 : S.bounds[i].v.k = c.kind
            · exact h5
            · rw [if_pos ⟨h4, h5⟩] at this; exact absurd this (by decide)
          · rw [if_pos h3] at this; exact absurd this h3
        · rw [if_pos h0] at this; exact absurd this h0
      · obtain ⟨i, hi, rfl⟩ := List.mem_iff_getElem.1 hr
        have := firstF_ok h i hi
        unfold rowsF at this
        split at this
        · exact absurd this (by decide)
        rename_i c hc
        have hq := List.find?_some hc
        rw [decide_eq_true_iff] at hq
        by_cases h0 : rowF S.rows[i].row c.loops.length = 0
        · rw [if_neg (by rw [h0]; decide)] at this
          obtain ⟨h1, h2⟩ := rowF_ok h0
          by_cases h3 : numsF none S.rows[i].nums = 0
          · exact ⟨c, List.mem_of_find?_eq_some hc, hq, h1, h2, h3⟩
          · rw [if_pos h3] at this; exact absurd this h3
        · rw [if_pos h0] at this; exact absurd this h0
    · rw [if_pos c1] at h; exact absurd h c1
  · rw [if_pos c0] at h; exact absurd h c0
theorem ScOk.sceneOk {S : SceneD} (h : ScOk S) : SceneOk S := by
  refine ⟨wok_of h.w, fun c hc b hb hn => ?_⟩
  obtain ⟨d, hd, e1, -, -, h3, h4⟩ := h.b b hb
  obtain rfl := one_of (f := CellD.nm) (wok_of h.w).oneC hd hc (by rw [e1, hn])
  exact ⟨h3, h4⟩
/-- what the map of bounds gives -/
theorem look_bound {S : SceneD} (hS : ScOk S) {w : World} {B : Nat} {kv : List (ByteArray × Value)} (hkv : KvB w B kv S.bounds) {nm : ByteArray} {row : List Int} (hn : noSp nm) (hr : codesOk row) :
    (getK kv ⟨(rowKeyL nm.data.toList row).toArray⟩ = none ∧ S.bounds.reverse.find? (fun b => decide (b.nm = nm) && decide (b.row = row)) = none) ∨
    ∃ d cs, getK kv ⟨(rowKeyL nm.data.toList row).toArray⟩ = some (.agg cs.toArray) ∧ BoundAt w B d cs ∧ d ∈ S.bounds ∧ S.bounds.reverse.find? (fun b => decide (b.nm = nm) && decide (b.row = row)) = some d := by
  have hm : ∀ d ∈ S.bounds.reverse, d ∈ S.bounds := fun d hd => List.mem_reverse.1 hd
  have hrel := hkv.rel
  clear hkv
  generalize S.bounds.reverse = l at hm hrel
  induction hrel with
  | nil => exact .inl ⟨rfl, rfl⟩
  | @cons s v d kv l h t ih =>
    obtain ⟨rfl, cs, rfl, hb⟩ := h
    rw [getK, List.find?_cons]
    have hdm := hm d (List.mem_cons_self ..)
    obtain ⟨c, hc, e1, -, h2, -⟩ := hS.b d hdm
    have hns : noSp d.nm := by rw [← e1]; exact name_noSp (hS.cn c hc)
    by_cases he : bKey d = ⟨(rowKeyL nm.data.toList row).toArray⟩
    · rw [if_pos he]
      have h3 : rowKeyL d.nm.data.toList d.row = rowKeyL nm.data.toList row := by
        have := congrArg (fun b : ByteArray => b.data.toList) he
        simpa [bKey] using this
      obtain ⟨e2, e3⟩ := key_inj hns hn h2 hr h3
      refine .inr ⟨d, cs, rfl, hb, hdm, ?_⟩
      simp [e2, e3]
    · rw [if_neg he]
      have h4 : (decide (d.nm = nm) && decide (d.row = row)) = false := by
        rw [Bool.and_eq_false_iff, decide_eq_false_iff_not, decide_eq_false_iff_not]
        by_cases e2 : d.nm = nm
        · exact .inr fun e3 => he (by rw [← e2, ← e3]; rfl)
        · exact .inl e2
      rw [h4]
      exact ih (fun x hx => hm x (List.mem_cons_of_mem _ hx))
/-- what the map of rows gives -/
theorem look_rows {S : SceneD} (hS : ScOk S) {w : World} {B : Nat} {kv : List (ByteArray × Value)} (hkv : KvR w B kv S.rows) {nm : ByteArray} {row : List Int} (hn : noSp nm) (hr : codesOk row) :
    (getK kv ⟨(rowKeyL nm.data.toList row).toArray⟩ = none ∧ S.rows.reverse.find? (fun b => decide (b.nm = nm) && decide (b.row = row)) = none) ∨
    ∃ d A c, getK kv ⟨(rowKeyL nm.data.toList row).toArray⟩ = some (.slice A (RowD.nums d).length c) ∧ Reads w B 1 A (RowD.nums d).length (numV .i64 (RowD.nums d)) ∧ (RowD.nums d).length ≤ maxLen ∧ d ∈ S.rows ∧ S.rows.reverse.find? (fun b => decide (b.nm = nm) && decide (b.row = row)) = some d := by
  have hm : ∀ d ∈ S.rows.reverse, d ∈ S.rows := fun d hd => List.mem_reverse.1 hd
  have hrel := hkv.rel
  clear hkv
  generalize S.rows.reverse = l at hm hrel
  induction hrel with
  | nil => exact .inl ⟨rfl, rfl⟩
  | @cons s v d kv l h t ih =>
    obtain ⟨rfl, A, cc, rfl, hb, hl⟩ := h
    rw [getK, List.find?_cons]
    have hdm := hm d (List.mem_cons_self ..)
    obtain ⟨c, hc, e1, -, h2, -⟩ := hS.r d hdm
    have hns : noSp d.nm := by rw [← e1]; exact name_noSp (hS.ln c hc)
    by_cases he : rKey d = ⟨(rowKeyL nm.data.toList row).toArray⟩
    · rw [if_pos he]
      have h3 : rowKeyL d.nm.data.toList d.row = rowKeyL nm.data.toList row := by
        have := congrArg (fun b : ByteArray => b.data.toList) he
        simpa [rKey] using this
      obtain ⟨e2, e3⟩ := key_inj hns hn h2 hr h3
      refine .inr ⟨d, A, cc, rfl, hb, hl, hdm, ?_⟩
      simp [e2, e3]
    · rw [if_neg he]
      have h4 : (decide (d.nm = nm) && decide (d.row = row)) = false := by
        rw [Bool.and_eq_false_iff, decide_eq_false_iff_not, decide_eq_false_iff_not]
        by_cases e2 : d.nm = nm
        · exact .inr fun e3 => he (by rw [← e2, ← e3]; rfl)
        · exact .inl e2
      rw [h4]
      exact ih (fun x hx => hm x (List.mem_cons_of_mem _ hx))
/-- numbers of rows are codes, and not too many -/
theorem nums_codes : ∀ {l : List Int} {p : Option Int}, numsF p l = 0 → codesOk l
  | [], _, _ => fun _ h => by cases h
  | a :: r, p, h => by
    rw [numsF] at h
    split at h
    · exact absurd h (by decide)
    rename_i h1
    split at h
    · exact absurd h (by decide)
    intro x hx
    rcases List.mem_cons.1 hx with e | e
    · rw [e]; exact outB_no (Bool.not_eq_true _ ▸ h1)
    · exact nums_codes h x e
theorem nums_len : ∀ {l : List Int} {p : Int}, numsF (some p) l = 0 → (l.length : Int) ≤ max 0 (999 - p)
  | [], _, _ => by simp; omega
  | a :: r, p, h => by
    rw [numsF] at h
    split at h
    · exact absurd h (by decide)
    rename_i h1
    split at h
    · exact absurd h (by decide)
    rename_i h2
    have ha : 1 ≤ a ∧ a ≤ 999 := outB_no (Bool.not_eq_true _ ▸ h1)
    have hp : p < a := by
      unfold leO at h2
      simpa using h2
    have ih := nums_len h
    rw [List.length_cons]
    omega
theorem nums_len0 {l : List Int} (h : numsF none l = 0) : l.length ≤ 999 := by
  cases l with
  | nil => simp
  | cons a r =>
    rw [numsF] at h
    split at h
    · exact absurd h (by decide)
    rename_i h1
    split at h
    · exact absurd h (by decide)
    have ha : 1 ≤ a ∧ a ≤ 999 := outB_no (Bool.not_eq_true _ ▸ h1)
    have ih := nums_len h
    rw [List.length_cons]
    omega
end Go.Proofs.YtpanbeoelbhhgaaGreatDoor
