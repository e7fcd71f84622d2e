/- 'ValueDaysAreACalendar' is proved: the days follow one another in the calendar, with their weekdays, and come back from their dates. No condition. -/
import Derived.Test.YtfkgodgjchbbpaaMon
import Derived.Test.YtfkgodgjchbbpaaSame
import Derived.Test.YtfkgodgjchbbpaaLaw
namespace Go.Proofs.Ytfkgodgjchbbpaa
open Go.ChangeShapes Go.WideShapes Go.ChangeAt Go.RowKit Go.Joins

theorem same_day (k n k' n' : Int) (w : World) :
    Calls Try.prog 10 #[.agg #[.int .i64 k, .int .i64 n, .string ⟨#[]⟩, .slice none 0 0], .agg #[.int .i64 k', .int .i64 n', .string ⟨#[]⟩, .slice none 0 0]] w fun e w' => e = .returned (.bool (decide (k = k') && decide (n = n'))) ∧ Below w.heap.size w w' := by
  have := same_any ⟨k, n, ⟨#[]⟩, []⟩ ⟨k', n', ⟨#[]⟩, []⟩ none none 0 0 0 0 w (by simp) (by simp) Reads.none_ Reads.none_ (Nat.zero_le _) (Nat.zero_le _)
  refine this.mono fun e w' ⟨he, hb⟩ => ⟨?_, hb⟩
  rw [he]
  simp [sameV]

theorem next_day {n : Int} (h1 : -25567 ≤ n) (h2 : n + 1 ≤ 84005) :
    (Cal.cy (n + 1) = Cal.cy n ∧ Cal.cm (n + 1) = Cal.cm n ∧ Cal.cd (n + 1) = Cal.cd n + 1) ∨
    (Cal.cy (n + 1) = Cal.cy n ∧ Cal.cm (n + 1) = Cal.cm n + 1 ∧ Cal.cd (n + 1) = 1) ∨
    (Cal.cy (n + 1) = Cal.cy n + 1 ∧ Cal.cm (n + 1) = 1 ∧ Cal.cd (n + 1) = 1 ∧ Cal.cm n = 12) := by
  have h := Cal.civ_spec h1 (by omega)
  obtain ⟨m1, m2, d1, d2, he⟩ := h
  unfold Cal.num at he
  by_cases hd : Cal.cd n < Cal.dim (Cal.cy n) (Cal.cm n)
  · have g : Cal.IsCivil (n + 1) (Cal.cy n) (Cal.cm n) (Cal.cd n + 1) := ⟨m1, m2, by omega, by omega, by unfold Cal.num; omega⟩
    exact .inl ⟨g.cy, g.cm, g.cd⟩
  · by_cases hm : Cal.cm n < 12
    · have cs := Cal.cum_succ (Cal.cy n) (Cal.cm n) m1 m2
      have db := Cal.dim_bd (Cal.cy n) (Cal.cm n + 1)
      have g : Cal.IsCivil (n + 1) (Cal.cy n) (Cal.cm n + 1) 1 := ⟨by omega, by omega, by omega, by omega, by unfold Cal.num; omega⟩
      exact .inr (.inl ⟨g.cy, g.cm, g.cd⟩)
    · have h12 : Cal.cm n = 12 := by omega
      have cs := Cal.cum_succ (Cal.cy n) 12 (by omega) (by omega)
      have c13 := Cal.cum_13 (Cal.cy n)
      have bs := Cal.base_succ (Cal.cy n)
      have c1 := Cal.cum_one (Cal.cy n + 1)
      have db := Cal.dim_bd (Cal.cy n + 1) 1
      rw [h12] at hd he d2
      simp only [show (12 : Int) + 1 = 13 from rfl] at cs
      have g : Cal.IsCivil (n + 1) (Cal.cy n + 1) 1 1 := ⟨by omega, by omega, by omega, by omega, by unfold Cal.num; omega⟩
      exact .inr (.inr ⟨g.cy, g.cm, g.cd, h12⟩)
theorem date_back {n : Int} (h1 : -25567 ≤ n) (h2 : n ≤ 84005) : dk (Cal.cy n) (Cal.cm n) (Cal.cd n) = 6 ∧ dn (Cal.cy n) (Cal.cm n) (Cal.cd n) = n := by
  have h := Cal.civ_spec h1 h2
  have hr := Cal.range_year h1 h2 h.year.1 h.year.2
  have hok : Cal.okDate (Cal.cy n) (Cal.cm n) (Cal.cd n) = true := by rw [Cal.okDate_iff]; exact ⟨hr, ⟨h.m1, h.m2⟩, h.d1, h.d2⟩
  simp [dk, dn, hok, h.eq]
theorem wd_next {n : Int} : ((Cal.weekday n + 1) % 7 == Cal.weekday (n + 1)) = true ∧ 0 ≤ Cal.weekday n ∧ Cal.weekday n ≤ 6 := by
  unfold Cal.weekday
  refine ⟨?_, ?_, ?_⟩
  · rw [beq_iff_eq]; omega
  · omega
  · omega

set_option maxRecDepth 100000 in
set_option maxHeartbeats 2000000 in
theorem cal_core (n Y M D P Q R' a b : Int) (w : World) (h1 : -25567 ≤ n) (h2 : n + 1 ≤ 84005) (Y1 : 0 ≤ Y) (Y2 : Y ≤ 10000) (M1 : 1 ≤ M) (M2 : M ≤ 12) (D1 : 1 ≤ D) (D2 : D ≤ 31)
    (H1 : Hid (∀ w, Calls Try.prog 17 #[.int .i64 n] w fun e w' => e = .returned (.tuple #[.int .i64 Y, .int .i64 M, .int .i64 D, .int .i64 0]) ∧ w = w'))
    (H2 : Hid (∀ w, Calls Try.prog 17 #[.int .i64 (n + 1)] w fun e w' => e = .returned (.tuple #[.int .i64 P, .int .i64 Q, .int .i64 R', .int .i64 0]) ∧ w = w'))
    (H3 : Hid (∀ w, Calls Try.prog 18 #[.int .i64 Y, .int .i64 M, .int .i64 D] w fun e w' => e = .returned (.agg #[.int .i64 6, .int .i64 n, .string ⟨#[]⟩, .slice none 0 0]) ∧ Below w.heap.size w w'))
    (H4 : Hid (∀ w, Calls Try.prog 19 #[.int .i64 n] w fun e w' => e = .returned (.tuple #[.int .i64 a, .int .i64 0]) ∧ w = w'))
    (H5 : Hid (∀ w, Calls Try.prog 19 #[.int .i64 (n + 1)] w fun e w' => e = .returned (.tuple #[.int .i64 b, .int .i64 0]) ∧ w = w'))
    (a1 : 0 ≤ a) (a2 : a ≤ 6) (hab : ((a + 1) % 7 == b) = true)
    (hnext : Hid ((P = Y ∧ Q = M ∧ R' = D + 1) ∨ (P = Y ∧ Q = M + 1 ∧ R' = 1) ∨ (P = Y + 1 ∧ Q = 1 ∧ R' = 1 ∧ M = 12))) :
    Calls Try.prog 6 #[.int .i64 n] w fun e w' => e = .returned (.bool true) ∧ Below w.heap.size w w' := by
  rcases hnext.out with ⟨rfl, rfl, rfl⟩ | ⟨rfl, rfl, rfl⟩ | ⟨rfl, rfl, rfl, rfl⟩
  all_goals
    clear hnext
    go_enter Try.func6, Try.ntmps6
    go_wp2_with fail
    refine (H1.out _).mono ?_
    rintro e w1 ⟨rfl, rfl⟩
    go_wp2_with fail
    refine (H3.out _).mono ?_
    rintro e w1 ⟨rfl, hb1⟩
    go_wp2_with fail
    refine (same_day _ _ _ _ _).mono ?_
    rintro e w2 ⟨rfl, hb2⟩
    replace hb1 := hb1.trans (hb2.mono hb1.size)
    clear hb2
    go_wp2_with fail
    refine (H2.out _).mono ?_
    rintro e w3 ⟨rfl, rfl⟩
    go_wp2_with fail
    refine (H4.out _).mono ?_
    rintro e w3 ⟨rfl, rfl⟩
    go_wp2_with fail
    refine (H5.out _).mono ?_
    rintro e w3 ⟨rfl, rfl⟩
    go_wp2_with fail
    go_ret
    exact ⟨rfl, hb1⟩

set_option maxRecDepth 100000 in
set_option maxHeartbeats 1000000 in
theorem cal_any (n : Int) (w : World) :
    Calls Try.prog 6 #[.int .i64 n] w fun e w' => e = .returned (.bool true) ∧ Below w.heap.size w w' := by
  by_cases ho : n < -25567 ∨ 84005 < n
  · have HO := Lib.hid ho
    by_cases hlt : n < -25567
    · clear ho
      go_enter Try.func6, Try.ntmps6
      go_wp2_with (go_at_call 17; refine (Civil_off _ _ HO.out).mono ?_; rintro e w' ⟨rfl, rfl⟩)
      go_ret
      exact ⟨rfl, Below.refl _ _⟩
    · have hgt : 84005 < n := by omega
      clear ho
      go_enter Try.func6, Try.ntmps6
      go_wp2_with (go_at_call 17; refine (Civil_off _ _ HO.out).mono ?_; rintro e w' ⟨rfl, rfl⟩)
      go_ret
      exact ⟨rfl, Below.refl _ _⟩
  have h1 : -25567 ≤ n := by omega
  have h2 : n ≤ 84005 := by omega
  clear ho
  obtain ⟨b1, b2, b3, b4, b5, b6⟩ := civ_bd h1 h2
  obtain ⟨z1, z2⟩ := date_back h1 h2
  have H3 := Lib.hid (show ∀ w, Calls Try.prog 18 #[.int .i64 (Cal.cy n), .int .i64 (Cal.cm n), .int .i64 (Cal.cd n)] w fun e w' => e = .returned (.agg #[.int .i64 6, .int .i64 n, .string ⟨#[]⟩, .slice none 0 0]) ∧ Below w.heap.size w w' from fun w => by
    have := Date_any (Cal.cy n) (Cal.cm n) (Cal.cd n) w
    rw [z1, z2] at this
    exact this)
  clear z1 z2
  by_cases h3 : n + 1 ≤ 84005
  · obtain ⟨wa, wb, wc⟩ := wd_next (n := n)
    exact cal_core n _ _ _ _ _ _ _ _ w h1 h3 (by omega) (by omega) b3 b4 b5 b6 (Lib.hid fun w => Civil_in n w h1 h2) (Lib.hid fun w => Civil_in (n + 1) w (by omega) h3) H3
      (Lib.hid fun w => Weekday_in n w h1 h2) (Lib.hid fun w => Weekday_in (n + 1) w (by omega) h3) wb wc wa (Lib.hid (next_day h1 h3))
  · obtain rfl : n = 84005 := by omega
    clear h1 h2 h3
    go_enter Try.func6, Try.ntmps6
    go_wp2_with fail
    refine (Civil_in _ _ (by omega) (by omega)).mono ?_
    rintro e w1 ⟨rfl, rfl⟩
    go_wp2_with fail
    refine (H3.out _).mono ?_
    rintro e w1 ⟨rfl, hb1⟩
    go_wp2_with fail
    refine (same_day _ _ _ _ _).mono ?_
    rintro e w2 ⟨rfl, hb2⟩
    replace hb1 := hb1.trans (hb2.mono hb1.size)
    clear hb2
    go_wp2_with fail
    refine (Civil_off _ _ (by omega)).mono ?_
    rintro e w3 ⟨rfl, rfl⟩
    go_wp2_with fail
    go_ret
    exact ⟨rfl, hb1⟩

set_option maxRecDepth 100000 in
theorem cal_lifted (os : Os) (started : os.Started) (H : Type) (enc : TypeId × Value → H) :
    ReturnsInHanded {} Try.checked os 6 .any (Rows.valueDaysAreACalendarSpec.pre6 enc Try.prog Try.f6 Rows.valueDaysAreACalendarRow.domain false) (Rows.valueDaysAreACalendarSpec.post enc Try.prog Try.f6 false true false false) := by
  refine returnsInHanded_of_change (C := Try.checked) own started (by kernel_rfl) Try.func6
    (ChangeSpec.witness6 (enc := enc) (C := Try.checked) false ⟨#[], #[.int .i64 0], []⟩ 8 (by kernel_rfl) (by kernel_rfl) (by kernel_rfl) (by kernel_rfl)) ?_
  intro W base args ds gs before hval0 hW hcnd _
  have hval : ∀ (j : Nat) t v, Try.f6.params[j]? = some t → args[j]? = some v → Value.okWide Try.prog W .any base t v := hval0
  have hW' : DataW.Whole enc Try.prog Try.f6.params.toList [] false W args.toList ds gs before := hW
  obtain ⟨p, q, hA0, hV, rfl, -, -⟩ := hW
  have hA : DataW.TrodAll enc Try.prog W 0 (fun _ => true) true Try.f6.params.toList args.toList ds p := hA0
  rw [Try.params6] at hA hval
  obtain ⟨v0, vs0, d0, ds0, p0, q0, hargs, rfl, rfl, h0, r0⟩ := trodAll_cons hA
  obtain ⟨rfl, rfl, rfl⟩ := trodAll_nil r0
  obtain rfl : args = #[v0] := by cases args; simp_all
  obtain ⟨rfl, rfl⟩ := trodVars_none hV
  obtain ⟨n0, rfl, rfl, rfl, w0⟩ := open_int Try.underlying3 (hval 0 3 v0 rfl rfl) h0
  clear hA0 hval0 hval
  refine (cal_any n0 W).mono fun e W' ⟨he, hb⟩ => ?_
  subst he
  exact ⟨_, rfl, law_post (by rw [Try.params6]; decide +kernel) rfl rfl rfl rfl rfl hW' hb⟩

theorem cal_holds : Rows.ValueDaysAreACalendarSaid :=
  OpenClaim.holds_of_wide 6 Try.f6 rfl rfl rfl rfl rfl rfl rfl ⟨rfl, rfl, rfl, rfl, rfl⟩ rfl rfl rfl rfl rfl (by kernel_rfl) Try.func6 (by kernel_rfl)
    (of_decide_eq_true (by kernel_rfl)) (by unfold Func.isWrapper; first | (rw [if_pos (by decide +kernel)]; kernel_rfl) | (rw [if_neg (by decide +kernel)]; exact ⟨rfl, rfl⟩))
    (fun os started H enc _ => cal_lifted os started H enc)
#print axioms cal_holds
end Go.Proofs.Ytfkgodgjchbbpaa
