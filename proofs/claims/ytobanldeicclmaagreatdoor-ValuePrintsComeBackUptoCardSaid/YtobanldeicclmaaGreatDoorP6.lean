/- The walks of 'civil', 'Civil' and 'Weekday' of both packages. Condition: 'civil' for days in the range. · The walks of 'dayValue', 'Date' and 'Months' of both packages: a Day, or Missing. No condition. · The walks of show and Show: a value's text. · The walks of Show and readSet. · PLAIN. The words of printed texts: each word is met where it was written. · PLAIN. Printed texts are read back: the words of a part, the levels of the grammar. · What a part without fault is. The plain mathematics. -/
import Derived.Test.YtobanldeicclmaaGreatDoorP5
import Derived.Test.YtobanldeicclmaaGreatDoorP4
import Derived.Test.YtobanldeicclmaaGreatDoorP1
namespace Go.Proofs.YtobanldeicclmaaGreatDoor
open Go.RowKit
theorem num_bd (y m d : Int) (h0 : 1600 ≤ y) (h1 : y ≤ 2400) (d0 : 0 ≤ d) (d1 : d ≤ 40) : -200000 ≤ Cal.num y m d ∧ Cal.num y m d ≤ 200000 := by
  have := Cal.base_bd y h0 h1
  have := Cal.cum_bd y m
  unfold Cal.num
  omega
theorem num_one (y m : Int) : Cal.num y m 1 = Cal.base y + Cal.cum y m := by unfold Cal.num; omega
theorem num_11 (y : Int) : Cal.num y 1 1 = Cal.base y := by unfold Cal.num; rw [Cal.cum_one]; omega
set_option maxHeartbeats 800000 in
theorem civil_any (n : Int) (w : World) (h1 : -25567 ≤ n) (h2 : n ≤ 84005) :
    Calls Tryz.prog 46 #[.int .i64 n] w fun e w' => e = .returned (.tuple #[.int .i64 (Cal.cy n), .int .i64 (Cal.cm n), .int .i64 (Cal.cd n)]) ∧ w = w' := by
  obtain ⟨g1, g2, g3⟩ := Cal.guess_ok h1 h2
  have main : ∀ g : Int, Cal.base g ≤ n → 1899 ≤ g → g ≤ 2199 → Cal.guess n = g → Calls Tryz.prog 46 #[.int .i64 n] w fun e w' => e = .returned (.tuple #[.int .i64 (Cal.cy n), .int .i64 (Cal.cm n), .int .i64 (Cal.cd n)]) ∧ w = w' := by
    intro g g1 g2 g3 hg
    have hq1 := Cal.tdiv_bd h1 h2
    obtain ⟨q1, q2, q3, q4⟩ := hq1
    have HG := Lib.hid hg
    clear hg
    by_cases hn : n < 0
    all_goals
      have HE := Lib.hid HG.out
      unfold Cal.guess at HE
      go_enter Tryz.func46, Tryz.ntmps46
      go_wp2
      go_loop [2] (fun t => ∃ y : Int, Cal.base y ≤ n ∧ 1899 ≤ y ∧ y ≤ 2199 ∧ t = .int .i64 y) (fun t => (2200 - intOf t).toNat)
      case atStart =>
        refine ⟨g, g1, g2, g3, ?_⟩
        rw [← HE.out]
        first | rw [if_pos hn] | rw [if_neg (by omega)]
      case round =>
        obtain ⟨y, hb, y1, y2, rfl⟩ := hrel
        have e11 := num_11 (y + 1)
        have nb := num_bd (y + 1) 1 1 (by omega) (by omega) (by omega) (by omega)
        obtain ⟨nb1, nb2⟩ := nb
        by_cases hc : Cal.base (y + 1) ≤ n
        · have hc' : Cal.num (y + 1) 1 1 ≤ n := by omega
          have y3 : y + 1 ≤ 2199 := by
            by_cases h : y + 1 ≤ 2199
            · exact h
            · have := Cal.base_2200
              have := Cal.base_mono (show 2200 ≤ y + 1 by omega)
              omega
          clear e11
          go_wp2_with (go_at_call 70; refine (number_any _ _ _ _ (by omega) (by omega) (by omega) (by omega) (by omega) (by omega)).mono ?_; rintro e w' ⟨rfl, rfl⟩)
          go_round
          case rel => exact ⟨y + 1, hc, by omega, y3, rfl⟩
          case measure => simp [intOf]; omega
        · have hc' : n < Cal.num (y + 1) 1 1 := by omega
          have hs := Cal.base_succ y
          have hs' : n < Cal.base y + Cal.yd y := by omega
          clear e11 hs hc
          go_wp2_with (go_at_call 70; refine (number_any _ _ _ _ (by omega) (by omega) (by omega) (by omega) (by omega) (by omega)).mono ?_; rintro e w' ⟨rfl, rfl⟩)
          go_loop [3] (fun t => ∃ m : Int, 1 ≤ m ∧ m ≤ 12 ∧ t = .int .i64 m ∧ Cal.base y + Cal.cum y m ≤ n) (fun t => (12 - intOf t).toNat)
          case atStart => exact ⟨1, by omega, by omega, rfl, by rw [Cal.cum_one]; omega⟩
          case round =>
            obtain ⟨m, m1, m2, rfl, hm⟩ := hrel
            have en := num_one y (m + 1)
            have nb := num_bd y (m + 1) 1 (by omega) (by omega) (by omega) (by omega)
            obtain ⟨nb3, nb4⟩ := nb
            have nb' := num_bd y m 1 (by omega) (by omega) (by omega) (by omega)
            obtain ⟨nb5, nb6⟩ := nb'
            by_cases hd : m < 12 ∧ Cal.base y + Cal.cum y (m + 1) ≤ n
            · obtain ⟨hd1, hd2⟩ := hd
              have hd3 : Cal.num y (m + 1) 1 ≤ n := by omega
              clear en
              go_wp2_with (go_at_call 70; refine (number_any _ _ _ _ (by omega) (by omega) (by omega) (by omega) (by omega) (by omega)).mono ?_; rintro e w' ⟨rfl, rfl⟩)
              go_round
              case rel => exact ⟨m + 1, by omega, by omega, rfl, hd2⟩
              case measure => simp [intOf]; omega
            · have hv : n < Cal.base y + Cal.cum y m + Cal.dim y m := by
                by_cases h12 : m = 12
                · have := Cal.cum_succ y 12 (by omega) (by omega)
                  have h13 := Cal.cum_13 y
                  subst h12
                  simp only [show (12 : Int) + 1 = 13 from rfl] at *
                  omega
                · have := Cal.cum_succ y m m1 m2
                  omega
              have hciv := Cal.civil_of hm hv m1 m2
              have en1 := num_one y m
              have HR : Hid (Cal.cy n = y ∧ Cal.cm n = m ∧ Cal.cd n = n - Cal.num y m 1 + 1) := ⟨hciv.cy, hciv.cm, by rw [hciv.cd, en1]⟩
              have hd4 : m < 12 → n < Cal.num y (m + 1) 1 := fun h => by omega
              clear hd en en1 hciv
              by_cases h12 : m < 12
              all_goals
                first | have hd5 := hd4 h12 | skip
                clear hd4
                go_wp2_with (go_at_call 70; refine (number_any _ _ _ _ (by omega) (by omega) (by omega) (by omega) (by omega) (by omega)).mono ?_; rintro e w' ⟨rfl, rfl⟩)
                go_ret3
                exact ⟨ret_tup3 HR.out.1.symm HR.out.2.1.symm HR.out.2.2.symm, rfl⟩
  exact main _ g1 g2 g3 rfl
end Go.Proofs.YtobanldeicclmaaGreatDoor
namespace Go.Proofs.YtobanldeicclmaaGreatDoor
open Go.RowKit
theorem dayValue_in (n : Int) (w : World) (h1 : -25567 ≤ n) (h2 : n ≤ 84005) :
    Calls Tryz.prog 217 #[.int .i64 n] w fun e w' => e = .returned (.agg #[.int .i64 6, .int .i64 n, .string ⟨#[]⟩, .slice none 0 0]) ∧ Below w.heap.size w w' := by
  have b1 : outB n (-25567) 84005 = false := outB_false (by omega) (by omega)
  go_enter Tryz.func217, Tryz.ntmps217
  go_wp2_with (go_at_call 63; refine (outside_any _ _ _ _).mono ?_; rintro e w' ⟨rfl, rfl⟩)
  refine bodyPost_ret (v := .agg #[.int .i64 6, .int .i64 n, .string ⟨#[]⟩, .slice none 0 0]) (by simp [results, Tryz.results217, go_sem]) rfl ⟨rfl, by first | exact (Below.refl _ _).alloc (Nat.le_refl _) _ | exact (((Below.refl _ _).alloc (Nat.le_refl _) _).setCell (Nat.le_refl _) _)⟩
theorem dayValue_off (n : Int) (w : World) (h : n < -25567 ∨ 84005 < n) :
    Calls Tryz.prog 217 #[.int .i64 n] w fun e w' => e = .returned (.agg #[.int .i64 0, .int .i64 0, .string ⟨#[]⟩, .slice none 0 0]) ∧ Below w.heap.size w w' := by
  have b1 : outB n (-25567) 84005 = true := outB_true (by omega)
  clear h
  go_enter Tryz.func217, Tryz.ntmps217
  go_wp2_with (go_at_call 63; refine (outside_any _ _ _ _).mono ?_; rintro e w' ⟨rfl, rfl⟩)
  refine bodyPost_ret (v := .agg #[.int .i64 0, .int .i64 0, .string ⟨#[]⟩, .slice none 0 0]) (by simp [results, Tryz.results217, go_sem]) rfl ⟨rfl, by first | exact (Below.refl _ _).alloc (Nat.le_refl _) _ | exact (((Below.refl _ _).alloc (Nat.le_refl _) _).setCell (Nat.le_refl _) _)⟩
def dk (y m d : Int) : Int := if Cal.okDate y m d = true then 6 else 0
def dn (y m d : Int) : Int := if Cal.okDate y m d = true then Cal.num y m d else 0
theorem okDate_no {y m d : Int} (h : outB y 1800 2300 = true ∨ outB m 1 12 = true ∨ outB d 1 (Cal.dim y m) = true) : Cal.okDate y m d = false := by
  rw [Bool.eq_false_iff]
  intro e
  rw [Cal.okDate_iff] at e
  simp only [outB, Bool.or_eq_true, decide_eq_true_eq] at h
  omega
set_option maxHeartbeats 800000 in
theorem Date_any (y m d : Int) (w : World) :
    Calls Tryz.prog 203 #[.int .i64 y, .int .i64 m, .int .i64 d] w fun e w' => e = .returned (.agg #[.int .i64 (dk y m d), .int .i64 (dn y m d), .string ⟨#[]⟩, .slice none 0 0]) ∧ Below w.heap.size w w' := by
  have stop : Cal.okDate y m d = false → dk y m d = 0 ∧ dn y m d = 0 := fun h => by simp [dk, dn, h]
  by_cases e1 : outB y 1800 2300 = true
  · obtain ⟨z1, z2⟩ := stop (okDate_no (.inl e1))
    rw [z1, z2]
    clear z1 z2 stop
    go_enter Tryz.func203, Tryz.ntmps203
    go_wp2_with (go_at_call 63; refine (outside_any _ _ _ _).mono ?_; rintro e w' ⟨rfl, rfl⟩)
    refine bodyPost_ret (v := .agg #[.int .i64 0, .int .i64 0, .string ⟨#[]⟩, .slice none 0 0]) (by simp [results, Tryz.results203, go_sem]) rfl ⟨rfl, by first | exact (Below.refl _ _).alloc (Nat.le_refl _) _ | exact (((Below.refl _ _).alloc (Nat.le_refl _) _).setCell (Nat.le_refl _) _)⟩
  have e1' : outB y 1800 2300 = false := by simpa using e1
  clear e1
  by_cases e2 : outB m 1 12 = true
  · obtain ⟨z1, z2⟩ := stop (okDate_no (.inr (.inl e2)))
    rw [z1, z2]
    clear z1 z2 stop
    go_enter Tryz.func203, Tryz.ntmps203
    go_wp2_with (go_at_call 63; refine (outside_any _ _ _ _).mono ?_; rintro e w' ⟨rfl, rfl⟩)
    refine bodyPost_ret (v := .agg #[.int .i64 0, .int .i64 0, .string ⟨#[]⟩, .slice none 0 0]) (by simp [results, Tryz.results203, go_sem]) rfl ⟨rfl, by first | exact (Below.refl _ _).alloc (Nat.le_refl _) _ | exact (((Below.refl _ _).alloc (Nat.le_refl _) _).setCell (Nat.le_refl _) _)⟩
  have e2' : outB m 1 12 = false := by simpa using e2
  clear e2
  have hy : 1800 ≤ y ∧ y ≤ 2300 := by simp only [outB, Bool.or_eq_false_iff, decide_eq_false_iff_not] at e1'; omega
  have hm : 1 ≤ m ∧ m ≤ 12 := by simp only [outB, Bool.or_eq_false_iff, decide_eq_false_iff_not] at e2'; omega
  obtain ⟨y1, y2⟩ := hy
  obtain ⟨m1, m2⟩ := hm
  by_cases e3 : outB d 1 (Cal.dim y m) = true
  · obtain ⟨z1, z2⟩ := stop (okDate_no (.inr (.inr e3)))
    rw [z1, z2]
    clear z1 z2 stop
    go_enter Tryz.func203, Tryz.ntmps203
    go_wp2_with (first | (go_at_call 63; refine (outside_any _ _ _ _).mono ?_; rintro e w' ⟨rfl, rfl⟩) | (go_at_call 109; refine (daysOf_any _ _ _ (by omega) (by omega)).mono ?_; rintro e w' ⟨rfl, rfl⟩))
    refine bodyPost_ret (v := .agg #[.int .i64 0, .int .i64 0, .string ⟨#[]⟩, .slice none 0 0]) (by simp [results, Tryz.results203, go_sem]) rfl ⟨rfl, by first | exact (Below.refl _ _).alloc (Nat.le_refl _) _ | exact (((Below.refl _ _).alloc (Nat.le_refl _) _).setCell (Nat.le_refl _) _)⟩
  have e3' : outB d 1 (Cal.dim y m) = false := by simpa using e3
  clear e3
  have hd : 1 ≤ d ∧ d ≤ Cal.dim y m := by simp only [outB, Bool.or_eq_false_iff, decide_eq_false_iff_not] at e3'; omega
  have hd2 := Cal.dim_bd y m
  obtain ⟨d1, d2⟩ := hd
  have d3 : d ≤ 40 := by omega
  have hnr := Cal.num_range m1 m2 d1 d2
  have hok : Cal.okDate y m d = decide (1900 ≤ y ∧ y ≤ 2199) := by
    rw [Bool.eq_iff_iff, Cal.okDate_iff]
    simp only [decide_eq_true_eq]
    constructor
    · exact fun h => h.1
    · exact fun h => ⟨h, ⟨m1, m2⟩, d1, d2⟩
  clear hd2 stop
  by_cases hr : 1900 ≤ y ∧ y ≤ 2199
  · have z1 : dk y m d = 6 := by simp [dk, hok, hr]
    have z2 : dn y m d = Cal.num y m d := by simp [dn, hok, hr]
    obtain ⟨r1, r2⟩ := hnr.2 hr
    rw [z1, z2]
    clear z1 z2 hok hnr hr
    go_enter Tryz.func203, Tryz.ntmps203
    go_wp2_with (first | (go_at_call 63; refine (outside_any _ _ _ _).mono ?_; rintro e w' ⟨rfl, rfl⟩) | (go_at_call 109; refine (daysOf_any _ _ _ (by omega) (by omega)).mono ?_; rintro e w' ⟨rfl, rfl⟩) | (go_at_call 70; refine (number_any _ _ _ _ (by omega) (by omega) (by omega) (by omega) (by omega) (by omega)).mono ?_; rintro e w' ⟨rfl, rfl⟩))
    refine (dayValue_in _ _ r1 r2).mono ?_
    rintro e w1 ⟨rfl, hb1⟩
    obtain ⟨hc, hf⟩ := bcell hb1
    have hz : w.heap.size + 1 ≤ w1.heap.size := by have := hb1.size; simpa using this
    have hbw : Below w.heap.size w w1 := ((Below.refl _ _).alloc (Nat.le_refl _) _).trans (hb1.mono (by simp))
    go_wp2
    refine bodyPost_ret (v := .agg #[.int .i64 6, .int .i64 (Cal.num y m d), .string ⟨#[]⟩, .slice none 0 0]) (by simp [results, Tryz.results203, go_sem, hc]) rfl ⟨rfl, by repeat' (first | exact hbw | exact Nat.le_refl _ | apply Below.setCell)⟩
  · have z1 : dk y m d = 0 := by simp [dk, hok, hr]
    have z2 : dn y m d = 0 := by simp [dn, hok, hr]
    have r1 : Cal.num y m d < -25567 ∨ 84005 < Cal.num y m d := by
      have := mt hnr.1 hr
      omega
    rw [z1, z2]
    clear z1 z2 hok hnr hr
    have R1 := Lib.hid r1
    clear r1
    go_enter Tryz.func203, Tryz.ntmps203
    go_wp2_with (first | (go_at_call 63; refine (outside_any _ _ _ _).mono ?_; rintro e w' ⟨rfl, rfl⟩) | (go_at_call 109; refine (daysOf_any _ _ _ (by omega) (by omega)).mono ?_; rintro e w' ⟨rfl, rfl⟩) | (go_at_call 70; refine (number_any _ _ _ _ (by omega) (by omega) (by omega) (by omega) (by omega) (by omega)).mono ?_; rintro e w' ⟨rfl, rfl⟩))
    refine (dayValue_off _ _ R1.out).mono ?_
    rintro e w1 ⟨rfl, hb1⟩
    obtain ⟨hc, hf⟩ := bcell hb1
    have hz : w.heap.size + 1 ≤ w1.heap.size := by have := hb1.size; simpa using this
    have hbw : Below w.heap.size w w1 := ((Below.refl _ _).alloc (Nat.le_refl _) _).trans (hb1.mono (by simp))
    go_wp2
    refine bodyPost_ret (v := .agg #[.int .i64 0, .int .i64 0, .string ⟨#[]⟩, .slice none 0 0]) (by simp [results, Tryz.results203, go_sem, hc]) rfl ⟨rfl, by repeat' (first | exact hbw | exact Nat.le_refl _ | apply Below.setCell)⟩
end Go.Proofs.YtobanldeicclmaaGreatDoor
namespace Go.Proofs.YtobanldeicclmaaGreatDoor
open Go.RowKit Dig Vtx
theorem replaceAll_any (s o n : ByteArray) (w : World) (hs : s.size ≤ 2000000) (h1 : 1 ≤ o.size) (hn : n.size ≤ 2) (hm : Mx w) :
    Calls Tryz.prog 43 #[.string s, .string o, .string n] w fun e w' => (∃ t : ByteArray, e = .returned (.string t) ∧ t.data.toList = Lib.replaceAll s.data.toList o.data.toList n.data.toList) ∧ Below w.heap.size w w' := by
  obtain ⟨m, hm⟩ := hm
  have hc := Lib.countB_le o h1 s.size s (Nat.le_refl _)
  have : Lib.countB s o * n.size ≤ s.size * 2 := Nat.mul_le_mul hc hn
  exact (Tryz.strings_ReplaceAll s o n m w (by omega) hm h1 (by omega)).mono fun _ _ ⟨he, hb⟩ => ⟨⟨_, he, rfl⟩, hb⟩
theorem esc_len (s : List UInt8) : (Lib.replaceAll s [39] [39, 39]).length ≤ 2 * s.length := by
  rw [replaceAll_repl (by simp), repl_subst1]
  induction s with
  | nil => simp [subst1]
  | cons b r ih =>
    have e : subst1 39 [39, 39] (b :: r) = (if b = 39 then [39, 39] else [b]) ++ subst1 39 [39, 39] r := by simp [subst1]
    rw [e, List.length_append, List.length_cons]
    split <;> simp <;> omega
set_option maxHeartbeats 4000000 in
set_option maxRecDepth 100000 in
theorem show_any (k n : Int) (s : ByteArray) (l : List Int) (S : List UInt8) (A : Option Addr) (c B1 : Nat) (w : World) (hS : s.data.toList = S) (hq : Snd k n S l) (hl : l.length ≤ 1000) (hs : s.size ≤ 1000)
    (hx : Reads w B1 1 A l.length (numV .i64 l)) (hB1 : B1 ≤ w.heap.size) (htab : Tab w) (hm : Mx w) :
    Calls Tryz.prog 21 #[.agg #[.int .i64 k, .int .i64 n, .string s, .slice A l.length c]] w fun e w' => (∃ t : ByteArray, e = .returned (.string t) ∧ t.data.toList = showT k n S l) ∧ Below w.heap.size w w' := by
  have HT := Lib.hid htab
  have HM := Lib.hid hm
  have HX := Lib.hid (hx.more hB1)
  have HS := Lib.hid hS
  clear htab hm hx hS hB1
  have hba : ∀ o : Obj, Below w.heap.size w (w.alloc o) := fun o => (Below.refl _ _).alloc (Nat.le_refl _) _
  have HBA := Lib.hid hba
  clear hba
  cases hq with
  | none_ =>
    go_enter Tryz.func21, Tryz.ntmps21
    go_wp2
    go_ret
    exact ⟨⟨_, rfl, rfl⟩, HBA.out _⟩
  | word h1 h2 =>
    have i1 : ∀ w, (Instr.index 72 (.agg #[.string ⟨#[]⟩, .string ⟨#[100, 111, 110, 116, 107, 110, 111, 119]⟩, .string ⟨#[114, 101, 102, 117, 115, 101, 100]⟩, .string ⟨#[110, 111, 97, 110, 115, 119, 101, 114]⟩]) (.int .i64 1)).run Tryz.prog w = .ok (.string ⟨#[100, 111, 110, 116, 107, 110, 111, 119]⟩) w := fun _ => by kernel_rfl
    have i2 : ∀ w, (Instr.index 72 (.agg #[.string ⟨#[]⟩, .string ⟨#[100, 111, 110, 116, 107, 110, 111, 119]⟩, .string ⟨#[114, 101, 102, 117, 115, 101, 100]⟩, .string ⟨#[110, 111, 97, 110, 115, 119, 101, 114]⟩]) (.int .i64 2)).run Tryz.prog w = .ok (.string ⟨#[114, 101, 102, 117, 115, 101, 100]⟩) w := fun _ => by kernel_rfl
    have i3 : ∀ w, (Instr.index 72 (.agg #[.string ⟨#[]⟩, .string ⟨#[100, 111, 110, 116, 107, 110, 111, 119]⟩, .string ⟨#[114, 101, 102, 117, 115, 101, 100]⟩, .string ⟨#[110, 111, 97, 110, 115, 119, 101, 114]⟩]) (.int .i64 3)).run Tryz.prog w = .ok (.string ⟨#[110, 111, 97, 110, 115, 119, 101, 114]⟩) w := fun _ => by kernel_rfl
    obtain rfl | rfl | rfl : n = 1 ∨ n = 2 ∨ n = 3 := by omega
    all_goals
      go_enter Tryz.func21, Tryz.ntmps21
      go_wp2
      go_ret
      exact ⟨⟨_, rfl, rfl⟩, HBA.out _⟩
  | num h1 h2 =>
    have HR := Lib.hid (fun w' => showNumber_any n w' h1 h2)
    go_enter Tryz.func21, Tryz.ntmps21
    go_wp2_with fail
    refine (HR.out _ (HT.out.below (HBA.out _))).mono ?_
    rintro e w1 ⟨⟨t, rfl, ht⟩, hb⟩
    have hbw := (HBA.out _).trans (hb.mono (HBA.out _).size)
    have HTT := Lib.hid ht
    clear ht hb
    go_wp2
    go_ret
    exact ⟨⟨_, rfl, HTT.out⟩, hbw⟩
  | text S =>
    go_enter Tryz.func21, Tryz.ntmps21
    go_wp2_with fail
    refine (replaceAll_any s ⟨#[39]⟩ ⟨#[39, 39]⟩ _ (by omega) (Nat.le_refl 1) (Nat.le_refl 2) (HM.out.below (HBA.out _))).mono ?_
    rintro e w1 ⟨⟨t, rfl, ht⟩, hb⟩
    rw [HS.out] at ht
    have hbw := (HBA.out _).trans (hb.mono (HBA.out _).size)
    have HTT := Lib.hid (show t.data.toList = Lib.replaceAll S [39] [39, 39] from ht)
    have htl : t.size ≤ 2000 := by
      rw [dsize HTT.out]
      have h1 := esc_len S
      have h2 : S.length = s.size := by rw [← HS.out]; rfl
      omega
    clear ht hb
    go_wp2
    go_ret
    exact ⟨⟨_, rfl, by rw [toList_app, toList_app, HTT.out]; rfl⟩, hbw⟩
  | code h1 h2 =>
    go_enter Tryz.func21, Tryz.ntmps21
    go_wp2_with fail
    refine (itoa_any n _ (by omega) (by omega) (HT.out.below (HBA.out _))).mono ?_
    rintro e w1 ⟨⟨t, rfl, ht⟩, hb⟩
    have hbw := (HBA.out _).trans (hb.mono (HBA.out _).size)
    have HTT := Lib.hid ht
    have htl : t.size ≤ 20 := by
      rw [dsize ht]
      obtain ⟨m, rfl⟩ : ∃ m : Nat, n = m := ⟨n.toNat, by omega⟩
      rw [itoa_nat]
      have := dec_len 2 m (by omega)
      omega
    clear ht hb
    go_wp2
    go_ret
    exact ⟨⟨_, rfl, by rw [toList_app, HTT.out]; rfl⟩, hbw⟩
  | set h =>
    have HC := Lib.hid h
    clear h
    go_enter Tryz.func21, Tryz.ntmps21
    go_wp2_with fail
    refine (showSet_any A l c w.heap.size _ hl HC.out (HX.out.below (HBA.out _)) (HBA.out _).size (HT.out.below (HBA.out _))).mono ?_
    rintro e w1 ⟨⟨t, rfl, ht⟩, hb⟩
    have hbw := (HBA.out _).trans (hb.mono (HBA.out _).size)
    have HTT := Lib.hid ht
    clear ht hb
    go_wp2
    go_ret
    exact ⟨⟨_, rfl, HTT.out⟩, hbw⟩
  | day h1 h2 =>
    obtain ⟨y, m, d, ey, em, ed, hy, hmm, hd, hok, hn⟩ := day_parts h1 h2
    have HY := Lib.hid (And.intro ey (And.intro em ed))
    have HL := Lib.hid (And.intro (pad_len (w := 4) (n := y) (dec_len 3 y hy)) (And.intro (pad_len (w := 2) (n := m) (dec_len 1 m hmm)) (pad_len (w := 2) (n := d) (dec_len 1 d hd))))
    have HCV := Lib.hid (fun w' => civil_any n w' h1 h2)
    clear ey em ed hok hn
    go_enter Tryz.func21, Tryz.ntmps21
    go_wp2_with fail
    refine (HCV.out _).mono ?_
    rw [HY.out.1, HY.out.2.1, HY.out.2.2]
    rintro e w1 ⟨rfl, rfl⟩
    have hb0 := HBA.out (.cells #[.int .i64 6, .int .i64 n, .string s, .slice A ([] : List Int).length c] 24 (0, 0))
    go_wp2_with fail
    refine (padded_any y 4 _ (by omega) (by omega) (by omega) (HT.out.below (HBA.out _))).mono ?_
    rintro e w1 ⟨⟨t1, rfl, ht1⟩, hb1⟩
    have hbw := (HBA.out _).trans (hb1.mono (HBA.out _).size)
    have HT1 := Lib.hid ht1
    have hl1 : t1.size ≤ 4 := by rw [dsize ht1, HL.out.1]; exact Nat.le_refl _
    clear ht1 hb1 hb0
    go_wp2_with fail
    refine (padded_any m 2 w1 (by omega) (by omega) (by omega) (HT.out.below hbw)).mono ?_
    rintro e w2 ⟨⟨t2, rfl, ht2⟩, hb2⟩
    have hbw := hbw.trans (hb2.mono hbw.size)
    have HT2 := Lib.hid ht2
    have hl2 : t2.size ≤ 2 := by rw [dsize ht2, HL.out.2.1]; exact Nat.le_refl _
    clear ht2 hb2
    go_wp2_with fail
    refine (padded_any d 2 w2 (by omega) (by omega) (by omega) (HT.out.below hbw)).mono ?_
    rintro e w3 ⟨⟨t3, rfl, ht3⟩, hb3⟩
    have hbw := hbw.trans (hb3.mono hbw.size)
    have HT3 := Lib.hid ht3
    have hl3 : t3.size ≤ 2 := by rw [dsize ht3, HL.out.2.2]; exact Nat.le_refl _
    clear ht3 hb3
    go_wp2
    go_ret
    refine ⟨⟨_, rfl, ?_⟩, hbw⟩
    show _ = dayT n
    unfold dayT
    rw [HY.out.1, HY.out.2.1, HY.out.2.2]
    simp only [toList_app, HT1.out, HT2.out, HT3.out]
    rfl
  | bool h1 h2 =>
    obtain rfl | rfl : n = 0 ∨ n = 1 := by omega
    all_goals
      go_enter Tryz.func21, Tryz.ntmps21
      go_wp2_with fail
      refine (Tryz.strconv_FormatBool _ _).mono ?_
      rintro e w1 ⟨rfl, rfl⟩
      go_wp2
      go_ret
      exact ⟨⟨_, rfl, by decide +kernel⟩, HBA.out _⟩
end Go.Proofs.YtobanldeicclmaaGreatDoor
namespace Go.Proofs.YtobanldeicclmaaGreatDoor
open Go.RowKit Dig Vtx
theorem snd_of {x : Val} (h : checkV x = 0) : Snd x.k x.n x.s.data.toList x.l ∧ x.l.length ≤ 40 ∧ x.s.size ≤ 200 := by
  unfold checkV at h
  by_cases h1 : outB x.k 0 7 = true
  · rw [if_pos h1] at h; cases h
  rw [if_neg h1] at h
  by_cases h2 : unusedB x = true
  · rw [if_pos h2] at h; cases h
  rw [if_neg h2] at h
  by_cases h3 : outB x.n (loOf x.k) (hiOf x.k) = true
  · rw [if_pos h3] at h; cases h
  rw [if_neg h3] at h
  by_cases h4 : 200 < x.s.size ∨ 40 < x.l.length
  · rw [if_pos h4] at h; cases h
  rw [if_neg h4] at h
  by_cases h5 : badStr x.s = true
  · rw [if_pos h5] at h; cases h
  rw [if_neg h5] at h
  by_cases h6 : x.l.any badCode = true
  · rw [if_pos h6] at h; cases h
  clear h h5
  have hc : ∀ c ∈ x.l, 1 ≤ c ∧ c ≤ 999 := by
    intro c hc
    rw [Bool.not_eq_true, List.any_eq_false] at h6
    have := h6 c hc
    simp only [badCode, outB, Bool.or_eq_true, decide_eq_true_eq, not_or] at this
    omega
  simp only [not_or] at h4
  refine ⟨?_, by omega, by omega⟩
  simp only [outB, Bool.or_eq_true, decide_eq_true_eq, not_or] at h1 h3
  obtain ⟨k, n, s, l⟩ := x
  simp only [unusedB] at h2
  simp only at h1 h3 hc
  rw [ByteArray.toList_eq] at h2
  show Snd k n s.data.toList l
  generalize s.data.toList = S at h2
  clear h4 h6
  have hk : k = 0 ∨ k = 1 ∨ k = 2 ∨ k = 3 ∨ k = 4 ∨ k = 5 ∨ k = 6 ∨ k = 7 := by omega
  rcases hk with rfl | rfl | rfl | rfl | rfl | rfl | rfl | rfl
  all_goals simp [usesB] at h2
  · obtain ⟨rfl, rfl, rfl⟩ := h2
    exact .none_
  · obtain ⟨rfl, rfl⟩ := h2
    simp [loOf, hiOf] at h3
    exact .word (by omega) (by omega)
  · obtain ⟨rfl, rfl⟩ := h2
    simp [loOf, hiOf] at h3
    exact .num (by omega) (by omega)
  · obtain ⟨rfl, rfl⟩ := h2
    exact .text _
  · obtain ⟨rfl, rfl⟩ := h2
    simp [loOf, hiOf] at h3
    exact .code (by omega) (by omega)
  · obtain ⟨rfl, rfl⟩ := h2
    exact .set hc
  · obtain ⟨rfl, rfl⟩ := h2
    simp [loOf, hiOf] at h3
    exact .day (by omega) (by omega)
  · obtain ⟨rfl, rfl⟩ := h2
    simp [loOf, hiOf] at h3
    exact .bool (by omega) (by omega)
end Go.Proofs.YtobanldeicclmaaGreatDoor
namespace Go.Proofs.YtobanldeicclmaaGreatDoor
open Vtx Go.Lib Dig
theorem span_stop {p : UInt8 → Bool} {w rest : List UInt8} (hw : ∀ c ∈ w, p c = true) (hr : ∀ c r, rest = c :: r → p c = false) : spanP p (w ++ rest) = w.length := by
  induction w with
  | nil =>
    cases rest with
    | nil => rfl
    | cons c r => rw [List.nil_append, spanP, hr c r rfl]; rfl
  | cons a w ih =>
    rw [List.cons_append, spanP, hw a (List.mem_cons_self ..), ih (fun c hc => hw c (List.mem_cons_of_mem _ hc))]
    rfl
theorem drop_split {s w rest : List UInt8} {i : Nat} (h : s.drop i = w ++ rest) : s.drop (i + w.length) = rest := by
  rw [← List.drop_drop, h, List.drop_left]
theorem drop_get {s rest : List UInt8} {i : Nat} {c : UInt8} (h : s.drop i = c :: rest) : s.getD i 0 = c ∧ i < s.length := by
  have h1 : (s.drop i)[0]? = some c := by rw [h]; rfl
  rw [List.getElem?_drop] at h1
  obtain ⟨hl, he⟩ := List.getElem?_eq_some_iff.1 h1
  exact ⟨by rw [List.getD_eq_getElem?_getD, show i = i + 0 from rfl, h1]; rfl, by omega⟩
theorem not_blank {c : UInt8} (h : c ≠ 32) : blankB c = false := by unfold blankB; exact decide_eq_false h
/-- nothing that belongs to a word stands ahead of a place -/
def Prev (s : List UInt8) (i : Nat) : Prop := i = 0 ∨ wordB (s.getD (i - 1) 0) = false
theorem word_at {s w rest : List UInt8} {i : Nat} {c : UInt8} {w' : List UInt8} (h : s.drop i = w ++ rest) (hc : w = c :: w') (h32 : c ≠ 32) (hw : wordLen (w ++ rest) = w.length) (hp : Prev s i ∨ wordB c = false) :
    wordsOf s i = ⟨i, w, false⟩ :: wordsOf s (i + w.length) := by
  have hd : s.drop i = c :: (w' ++ rest) := by rw [h, hc]; rfl
  obtain ⟨hg, hlt⟩ := drop_get hd
  have hs : spanP blankB (s.drop i) = 0 := by rw [hd, spanP, not_blank h32]; rfl
  rw [words_eq]
  have e : tokAt s i = some ⟨i, w, false⟩ := by
    unfold tokAt
    rw [hs, Nat.add_zero, if_pos hlt, h, hw, List.take_left, hg]
    have : (decide (0 = 0) && decide (0 < i) && wordB (s.getD (i - 1) 0) && wordB c) = false := by
      rcases hp with (hp | hp) | hp
      · subst hp; simp
      · rw [hp]; simp
      · rw [hp]; simp
    rw [this]
  rw [e]
theorem blank_at {s rest : List UInt8} {i : Nat} (h : s.drop i = 32 :: rest) : wordsOf s i = wordsOf s (i + 1) := by
  obtain ⟨hg, hlt⟩ := drop_get h
  have hd : s.drop (i + 1) = rest := drop_split (w := [32]) h
  have e : tokAt s i = tokAt s (i + 1) := by
    unfold tokAt
    rw [h, hd]
    have hs : spanP blankB (32 :: rest) = spanP blankB rest + 1 := by rw [spanP]; rfl
    have e1 : i + spanP blankB (32 :: rest) = i + 1 + spanP blankB rest := by rw [hs]; omega
    rw [e1]
    have e2 : decide (spanP blankB (32 :: rest) = 0) = false := by rw [hs]; exact decide_eq_false (by omega)
    have e3 : wordB (s.getD (i + 1 - 1) 0) = false := by rw [Nat.add_sub_cancel, hg]; decide
    rw [e2, e3]
    simp
  rw [words_eq s i, words_eq s (i + 1), e]
theorem end_at {s : List UInt8} {i : Nat} (h : s.drop i = []) : wordsOf s i = [] := by
  rw [words_eq]
  have e : tokAt s i = none := by
    unfold tokAt
    rw [h]
    have : s.length ≤ i := List.drop_eq_nil_iff.1 h
    rw [if_neg (by simp [spanP]; omega)]
  rw [e]
/-- what may follow an expression -/
def Stop (rest : List UInt8) : Prop := ∀ c r, rest = c :: r → c = 32 ∨ c = 41 ∨ c = 44
theorem stop_not {rest : List UInt8} (h : Stop rest) {p : UInt8 → Bool} (h1 : p 32 = false) (h2 : p 41 = false) (h3 : p 44 = false) : ∀ c r, rest = c :: r → p c = false := by
  intro c r e
  rcases h c r e with rfl | rfl | rfl <;> assumption
theorem low_word {c : UInt8} (h : lowB c = true) : wordB c = true := by unfold wordB; rw [h]; rfl
theorem dig_toNat {b : UInt8} (h : isDig b) : 48 ≤ b.toNat ∧ b.toNat ≤ 57 := by
  unfold isDig at h
  omega
theorem digB_is {b : UInt8} (h : isDig b) : digB b = true := by
  have := dig_toNat h
  unfold digB
  simp; omega
theorem dig_low {b : UInt8} (h : digB b = true) : lowB b = false := by
  unfold digB at h
  unfold lowB
  simp at *
  omega
theorem ne_of_dig {b c : UInt8} (h : digB b = true) (hc : digB c = false) : b ≠ c := by rintro rfl; rw [h] at hc; cases hc
theorem ne_of_low {b c : UInt8} (h : lowB b = true) (hc : lowB c = false) : b ≠ c := by rintro rfl; rw [h] at hc; cases hc
/-- a word of letters -/
theorem len_name {c : UInt8} {w rest : List UInt8} (hc : lowB c = true) (hw : ∀ x ∈ w, wordB x = true) (hr : ∀ d r, rest = d :: r → wordB d = false) : wordLen ((c :: w) ++ rest) = (c :: w).length := by
  rw [List.cons_append, wordLen, if_pos hc, span_stop hw hr, List.length_cons]
theorem len_num {c : UInt8} {w rest : List UInt8} (hc : digB c = true) (hw : ∀ x ∈ w, stopB x = true) (hr : ∀ d r, rest = d :: r → stopB d = false) : wordLen ((c :: w) ++ rest) = (c :: w).length := by
  rw [List.cons_append, wordLen, if_neg (by rw [dig_low hc]; decide), if_pos hc, span_stop hw hr, List.length_cons]
theorem len_day {w rest : List UInt8} (hw : ∀ x ∈ w, hyphB x = true) (hr : ∀ d r, rest = d :: r → hyphB d = false) : wordLen ((64 :: w) ++ rest) = ((64 : UInt8) :: w).length := by
  rw [List.cons_append, wordLen, if_neg (by decide), if_neg (by decide), if_pos rfl, span_stop hw hr, List.length_cons]
theorem len_code {w rest : List UInt8} (hw : ∀ x ∈ w, digB x = true) (hr : ∀ d r, rest = d :: r → digB d = false) : wordLen ((35 :: w) ++ rest) = ((35 : UInt8) :: w).length := by
  rw [List.cons_append, wordLen, if_neg (by decide), if_neg (by decide), if_neg (by decide), if_pos rfl, span_stop hw hr, List.length_cons]
theorem brace_stop : ∀ {w : List UInt8} {rest : List UInt8}, (125 : UInt8) ∉ w → braceN (w ++ 125 :: rest) = w.length + 1
  | [], rest, _ => by rw [List.nil_append, braceN, if_pos rfl]; rfl
  | c :: w, rest, h => by
    rw [List.cons_append, braceN, if_neg (fun e => h (by rw [e]; exact List.mem_cons_self ..)), brace_stop (fun e => h (List.mem_cons_of_mem _ e)), List.length_cons]
theorem len_set {w rest : List UInt8} (hw : (125 : UInt8) ∉ w) : wordLen ((123 :: (w ++ [125])) ++ rest) = ((123 : UInt8) :: (w ++ [125])).length := by
  rw [List.cons_append, wordLen, if_neg (by decide), if_neg (by decide), if_neg (by decide), if_neg (by decide), if_neg (by decide), if_pos rfl, List.append_assoc]
  rw [show [(125 : UInt8)] ++ rest = 125 :: rest from rfl, brace_stop hw]
  simp
theorem quoted_stop : ∀ (s : List UInt8) (rest : List UInt8), (∀ d r, rest = d :: r → d ≠ 39) → quotedN (subst1 39 [39, 39] s ++ 39 :: rest) = (subst1 39 [39, 39] s).length + 1
  | [], rest, h => by
    rw [show subst1 39 [39, 39] [] = [] from rfl, List.nil_append]
    cases rest with
    | nil => rfl
    | cons d r => rw [quotedN, if_neg (by decide), if_neg (h d r rfl)]; rfl
  | c :: s, rest, h => by
    have ih := quoted_stop s rest h
    by_cases hc : c = 39
    · subst hc
      have e : subst1 39 [39, 39] (39 :: s) = 39 :: 39 :: subst1 39 [39, 39] s := by unfold subst1; simp
      rw [e, List.cons_append, List.cons_append, quotedN, if_neg (by decide), if_pos rfl, ih]
      simp
    · have e : subst1 39 [39, 39] (c :: s) = c :: subst1 39 [39, 39] s := by unfold subst1; simp [hc]
      rw [e, List.cons_append]
      obtain ⟨d, t, hd⟩ : ∃ d t, subst1 39 [39, 39] s ++ 39 :: rest = d :: t := by
        cases e2 : subst1 39 [39, 39] s with
        | nil => exact ⟨_, _, rfl⟩
        | cons d t => exact ⟨_, _, rfl⟩
      rw [hd] at ih ⊢
      rw [quotedN, if_pos hc, ih]
      simp
theorem len_text (s : List UInt8) {rest : List UInt8} (hr : ∀ d r, rest = d :: r → d ≠ 39) : wordLen (textT s ++ rest) = (textT s).length := by
  unfold textT
  rw [replaceAll_repl (by decide), repl_subst1]
  rw [List.cons_append, List.cons_append, wordLen, if_neg (by decide), if_neg (by decide), if_neg (by decide), if_neg (by decide), if_pos rfl, List.append_assoc]
  rw [show [(39 : UInt8)] ++ rest = 39 :: rest from rfl, quoted_stop s rest hr]
  simp
theorem len_one {c : UInt8} {rest : List UInt8} (h1 : lowB c = false) (h2 : digB c = false) (h3 : c ≠ 64 ∧ c ≠ 35 ∧ c ≠ 39 ∧ c ≠ 123) (h4 : ∀ d r, rest = d :: r → twoB c d = false) : wordLen ([c] ++ rest) = [c].length := by
  rw [List.singleton_append, wordLen, if_neg (by rw [h1]; decide), if_neg (by rw [h2]; decide), if_neg h3.1, if_neg h3.2.1, if_neg h3.2.2.1, if_neg h3.2.2.2]
  cases rest with
  | nil => rfl
  | cons d r => unfold signLen; simp [h4 d r rfl]
theorem len_two {c d : UInt8} {rest : List UInt8} (h : twoB c d = true) : wordLen ([c, d] ++ rest) = [c, d].length := by
  have hc : c = 60 ∨ c = 62 := by
    unfold twoB at h
    simp at h
    rcases h with h | h
    · exact .inl h.1
    · exact .inr h.1
  have e : wordLen ([c, d] ++ rest) = signLen c (d :: rest) := by
    rw [show [c, d] ++ rest = c :: d :: rest from rfl]
    rcases hc with rfl | rfl <;> rw [wordLen, if_neg (by decide), if_neg (by decide), if_neg (by decide), if_neg (by decide), if_neg (by decide), if_neg (by decide)]
  rw [e]
  unfold signLen
  simp [h]
end Go.Proofs.YtobanldeicclmaaGreatDoor
namespace Go.Proofs.YtobanldeicclmaaGreatDoor
open Vtx Go.Lib Dig
def signW (a b : Int) (w : List UInt8) : Int := if w = [] then 0 else match ([4, 5, 6, 7, 8, 9, 10, 11, 15, 16, 17, 18, 19] : List Int).find? (fun o => decide (a ≤ o) && decide (o ≤ b) && decide (infixT o ≠ []) && decide (w = infixT o)) with
  | some o => o
  | none => 0
theorem isW_cons (i : Nat) (w x : List UInt8) (r : List Tok) : isW (⟨i, w, false⟩ :: r) x = decide (w = x) := by simp [isW]
theorem sign_cons (a b : Int) (i : Nat) (w : List UInt8) (r : List Tok) : signOf a b (⟨i, w, false⟩ :: r) = signW a b w := by
  unfold signOf signW
  simp only [isW_cons, decide_eq_true_eq]
  try rfl
theorem sign_nil (a b : Int) : signOf a b [] = 0 := by
  unfold signOf
  rw [if_neg (by simp [isW]), List.find?_eq_none.2 (fun o _ => by simp [isW])]
def FP (l : List Tok) : Prop := signOf 17 19 l = 0
def FS (l : List Tok) : Prop := FP l ∧ signOf 15 16 l = 0
def FN (l : List Tok) : Prop := FS l ∧ signOf 4 11 l = 0
def FA (l : List Tok) : Prop := FN l ∧ isW l andW = false
def FO (l : List Tok) : Prop := FA l ∧ isW l orW = false
def FT (_ : List Tok) : Prop := True
theorem fo_nil : FO [] := ⟨⟨⟨⟨sign_nil _ _, sign_nil _ _⟩, sign_nil _ _⟩, rfl⟩, rfl⟩
theorem fo_word {i : Nat} {w : List UInt8} {r : List Tok} (h : w = [41] ∨ w = [44]) : FO (⟨i, w, false⟩ :: r) := by
  unfold FO FA FN FS FP
  rw [sign_cons, sign_cons, sign_cons, isW_cons, isW_cons]
  rcases h with rfl | rfl <;> decide +kernel
theorem fa_or {i : Nat} {r : List Tok} : FA (⟨i, orW, false⟩ :: r) := by
  unfold FA FN FS FP
  rw [sign_cons, sign_cons, sign_cons, isW_cons]
  decide +kernel
theorem fn_and {i : Nat} {r : List Tok} : FN (⟨i, andW, false⟩ :: r) := by
  unfold FN FS FP
  rw [sign_cons, sign_cons, sign_cons]
  decide +kernel
theorem fs_cmp {i : Nat} {o : Int} {r : List Tok} (h : 4 ≤ o ∧ o ≤ 11) : FS (⟨i, infixT o, false⟩ :: r) ∧ signOf 4 11 (⟨i, infixT o, false⟩ :: r) = o := by
  unfold FS FP
  rw [sign_cons, sign_cons, sign_cons]
  obtain rfl | rfl | rfl | rfl | rfl | rfl | rfl | rfl : o = 4 ∨ o = 5 ∨ o = 6 ∨ o = 7 ∨ o = 8 ∨ o = 9 ∨ o = 10 ∨ o = 11 := by omega
  all_goals decide +kernel
theorem fp_sum {i : Nat} {o : Int} {r : List Tok} (h : o = 15 ∨ o = 16) : FP (⟨i, infixT o, false⟩ :: r) ∧ signOf 15 16 (⟨i, infixT o, false⟩ :: r) = o := by
  unfold FP
  rw [sign_cons, sign_cons]
  rcases h with rfl | rfl <;> decide +kernel
theorem f_product {i : Nat} {o : Int} {r : List Tok} (h : o = 17 ∨ o = 18 ∨ o = 19) : signOf 17 19 (⟨i, infixT o, false⟩ :: r) = o := by
  rw [sign_cons]
  rcases h with rfl | rfl | rfl <;> decide +kernel
theorem infix_word {o : Int} (h : (4 ≤ o ∧ o ≤ 11) ∨ o = 15 ∨ o = 16 ∨ o = 17 ∨ o = 18 ∨ o = 19) (rest : List UInt8) : wordLen (infixT o ++ 32 :: rest) = (infixT o).length ∧ ∃ c w, infixT o = c :: w ∧ c ≠ 32 := by
  have h1 : ∀ c : UInt8, lowB c = false → digB c = false → c ≠ 64 ∧ c ≠ 35 ∧ c ≠ 39 ∧ c ≠ 123 → twoB c 32 = false → wordLen ([c] ++ 32 :: rest) = [c].length := fun c a b d e => len_one a b d (fun x r hx => by injection hx with hx; subst hx; exact e)
  have hw : ∀ d r, (32 : UInt8) :: rest = d :: r → wordB d = false := fun d r e => by injection e with e; subst e; decide
  obtain rfl | rfl | rfl | rfl | rfl | rfl | rfl | rfl | rfl | rfl | rfl | rfl | rfl : o = 4 ∨ o = 5 ∨ o = 6 ∨ o = 7 ∨ o = 8 ∨ o = 9 ∨ o = 10 ∨ o = 11 ∨ o = 15 ∨ o = 16 ∨ o = 17 ∨ o = 18 ∨ o = 19 := by omega
  · exact ⟨h1 61 (by decide) (by decide) (by decide) (by decide), _, _, rfl, by decide⟩
  · exact ⟨len_two (c := 60) (d := 62) (by decide), _, _, rfl, by decide⟩
  · exact ⟨h1 60 (by decide) (by decide) (by decide) (by decide), _, _, rfl, by decide⟩
  · exact ⟨len_two (c := 60) (d := 61) (by decide), _, _, rfl, by decide⟩
  · exact ⟨h1 62 (by decide) (by decide) (by decide) (by decide), _, _, rfl, by decide⟩
  · exact ⟨len_two (c := 62) (d := 61) (by decide), _, _, rfl, by decide⟩
  · exact ⟨len_name (c := 105) (w := [110]) (by decide) (by decide) hw, _, _, rfl, by decide⟩
  · exact ⟨len_name (c := 104) (w := [97, 115]) (by decide) (by decide) hw, _, _, rfl, by decide⟩
  · exact ⟨h1 43 (by decide) (by decide) (by decide) (by decide), _, _, rfl, by decide⟩
  · exact ⟨h1 45 (by decide) (by decide) (by decide) (by decide), _, _, rfl, by decide⟩
  · exact ⟨h1 42 (by decide) (by decide) (by decide) (by decide), _, _, rfl, by decide⟩
  · exact ⟨h1 47 (by decide) (by decide) (by decide) (by decide), _, _, rfl, by decide⟩
  · exact ⟨len_name (c := 109) (w := [111, 100]) (by decide) (by decide) hw, _, _, rfl, by decide⟩
section
variable {s : List UInt8}
/-- it is read as e, whatever stands behind -/
def Rd (s : List UInt8) (nt : NT) (w : List UInt8) (e : Ex) (F : List Tok → Prop) : Prop := ∀ i rest, s.drop i = w ++ rest → Stop rest → Prev s i → F (wordsOf s (i + w.length)) →
  Pz s.length nt [] (wordsOf s i) = .ok [e] (wordsOf s (i + w.length))
/-- it begins a row of products -/
def Ch6 (s : List UInt8) (w : List UInt8) (e : Ex) : Prop := ∀ i rest, s.drop i = w ++ rest → Stop rest → Prev s i → Pz s.length .product [] (wordsOf s i) = Pz s.length .productL [e] (wordsOf s (i + w.length))
def Ch5 (s : List UInt8) (w : List UInt8) (e : Ex) : Prop := ∀ i rest, s.drop i = w ++ rest → Stop rest → Prev s i → FP (wordsOf s (i + w.length)) → Pz s.length .sum [] (wordsOf s i) = Pz s.length .sumL [e] (wordsOf s (i + w.length))
/-- its first word -/
def HW (s : List UInt8) (w f : List UInt8) : Prop := ∀ i rest, s.drop i = w ++ rest → Stop rest → Prev s i → ∃ r, wordsOf s i = ⟨i, f, false⟩ :: r
theorem ch6_of {w : List UInt8} {e : Ex} (h : Rd s .minus w e FT) : Ch6 s w e := fun i rest h1 h2 h3 => by
  rw [Pz_eq]
  show (Pz s.length .minus [] _).bind _ = _
  rw [h i rest h1 h2 h3 trivial]; rfl
theorem productL_end {acc : List Ex} {l : List Tok} (h : FP l) : Pz s.length .productL acc l = .ok acc l := by rw [Pz_eq]; exact if_pos h
theorem sumL_end {acc : List Ex} {l : List Tok} (h : FS l) : Pz s.length .sumL acc l = .ok acc l := by rw [Pz_eq]; exact if_pos h.2
theorem product_of {w : List UInt8} {e : Ex} (h : Ch6 s w e) : Rd s .product w e FP := fun i rest h1 h2 h3 hf => by rw [h i rest h1 h2 h3, productL_end hf]
theorem ch5_of {w : List UInt8} {e : Ex} (h : Ch6 s w e) : Ch5 s w e := fun i rest h1 h2 h3 hf => by
  rw [Pz_eq]
  show (Pz s.length .product [] _).bind _ = _
  rw [product_of h i rest h1 h2 h3 hf]; rfl
theorem sum_of {w : List UInt8} {e : Ex} (h : Ch5 s w e) : Rd s .sum w e FS := fun i rest h1 h2 h3 hf => by rw [h i rest h1 h2 h3 hf.1, sumL_end hf]
theorem minus_of {w f : List UInt8} {e : Ex} (h : Rd s .primary w e FT) (hf : HW s w f) (h45 : f ≠ [45]) : Rd s .minus w e FT := fun i rest h1 h2 h3 _ => by
  obtain ⟨r, hr⟩ := hf i rest h1 h2 h3
  rw [Pz_eq]
  show (if isW (wordsOf s i) [45] = true then _ else Pz s.length .primary [] (wordsOf s i)) = _
  rw [if_neg (by rw [hr, isW_cons]; simpa using h45)]
  exact h i rest h1 h2 h3 trivial
theorem not_of {w f : List UInt8} {e : Ex} (h : Ch5 s w e) (hf : HW s w f) (hn : f ≠ notW) : Rd s .not w e FN := fun i rest h1 h2 h3 hF => by
  obtain ⟨r, hr⟩ := hf i rest h1 h2 h3
  rw [Pz_eq]
  show (if isW (wordsOf s i) notW = true then _ else (Pz s.length .sum [] (wordsOf s i)).bind _) = _
  rw [if_neg (by rw [hr, isW_cons]; simpa using hn), sum_of h i rest h1 h2 h3 hF.1]
  exact if_pos hF.2
theorem andL_end {acc : List Ex} {l : List Tok} (h : isW l andW = false) : Pz s.length .andL acc l = .ok (joinE 2 acc) l := by rw [Pz_eq]; exact if_neg (by rw [h]; decide)
theorem orL_end {acc : List Ex} {l : List Tok} (h : isW l orW = false) : Pz s.length .orL acc l = .ok (joinE 3 acc) l := by rw [Pz_eq]; exact if_neg (by rw [h]; decide)
theorem and_of {w : List UInt8} {e : Ex} (h : Rd s .not w e FN) : Rd s .and w e FA := fun i rest h1 h2 h3 hF => by
  rw [Pz_eq]
  show (Pz s.length .not [] _).bind _ = _
  rw [h i rest h1 h2 h3 hF.1]
  exact andL_end hF.2
theorem or_of {w : List UInt8} {e : Ex} (h : Rd s .and w e FA) : Rd s .or w e FO := fun i rest h1 h2 h3 hF => by
  rw [Pz_eq]
  show (Pz s.length .and [] _).bind _ = _
  rw [h i rest h1 h2 h3 hF.1]
  exact orL_end hF.2
/-- what is known of a text of a row -/
structure ClW (s : List UInt8) (w : List UInt8) (e : Ex) (r : Int) : Prop where
  or : Rd s .or w e FO
  and : 2 ≤ r → Rd s .and w e FA
  not : 3 ≤ r → Rd s .not w e FN
  sum : 5 ≤ r → Ch5 s w e
  product : 6 ≤ r → Ch6 s w e
  minus : 7 ≤ r → Rd s .minus w e FT
  primary : 8 ≤ r → Rd s .primary w e FT
  first : 5 ≤ r → ∃ f, HW s w f ∧ f ≠ notW
  ne : w ≠ []
theorem ClW.of8 {w f : List UInt8} {e : Ex} (h : Rd s .primary w e FT) (hf : HW s w f) (h45 : f ≠ [45]) (hn : f ≠ notW) (h0 : w ≠ []) : ClW s w e 8 :=
  have h7 := minus_of h hf h45
  have h6 := ch6_of h7
  have h5 := ch5_of h6
  have h3 := not_of h5 hf hn
  ⟨or_of (and_of h3), fun _ => and_of h3, fun _ => h3, fun _ => h5, fun _ => h6, fun _ => h7, fun _ => h, fun _ => ⟨f, hf, hn⟩, h0⟩
theorem ClW.of7 {w f : List UInt8} {e : Ex} (h7 : Rd s .minus w e FT) (hf : HW s w f) (hn : f ≠ notW) (h0 : w ≠ []) : ClW s w e 7 :=
  have h6 := ch6_of h7
  have h5 := ch5_of h6
  have h3 := not_of h5 hf hn
  ⟨or_of (and_of h3), fun _ => and_of h3, fun _ => h3, fun _ => h5, fun _ => h6, fun _ => h7, fun h => absurd h (by decide), fun _ => ⟨f, hf, hn⟩, h0⟩
theorem ClW.of6 {w f : List UInt8} {e : Ex} (h6 : Ch6 s w e) (hf : HW s w f) (hn : f ≠ notW) (h0 : w ≠ []) : ClW s w e 6 :=
  have h5 := ch5_of h6
  have h3 := not_of h5 hf hn
  ⟨or_of (and_of h3), fun _ => and_of h3, fun _ => h3, fun _ => h5, fun _ => h6, fun h => absurd h (by decide), fun h => absurd h (by decide), fun _ => ⟨f, hf, hn⟩, h0⟩
theorem ClW.of5 {w f : List UInt8} {e : Ex} (h5 : Ch5 s w e) (hf : HW s w f) (hn : f ≠ notW) (h0 : w ≠ []) : ClW s w e 5 :=
  have h3 := not_of h5 hf hn
  ⟨or_of (and_of h3), fun _ => and_of h3, fun _ => h3, fun _ => h5, fun h => absurd h (by decide), fun h => absurd h (by decide), fun h => absurd h (by decide), fun _ => ⟨f, hf, hn⟩, h0⟩
theorem ClW.of3 {w : List UInt8} {e : Ex} {r : Int} (hr : r ≤ 4) (h3 : Rd s .not w e FN) (h0 : w ≠ []) : ClW s w e r :=
  ⟨or_of (and_of h3), fun _ => and_of h3, fun _ => h3, fun h => absurd h (by omega), fun h => absurd h (by omega), fun h => absurd h (by omega), fun h => absurd h (by omega), fun h => absurd h (by omega), h0⟩
theorem ClW.of2 {w : List UInt8} {e : Ex} (h2 : Rd s .and w e FA) (h0 : w ≠ []) : ClW s w e 2 :=
  ⟨or_of h2, fun _ => h2, fun h => absurd h (by decide), fun h => absurd h (by decide), fun h => absurd h (by decide), fun h => absurd h (by decide), fun h => absurd h (by decide), fun h => absurd h (by decide), h0⟩
theorem ClW.of1 {w : List UInt8} {e : Ex} (h1 : Rd s .or w e FO) (h0 : w ≠ []) : ClW s w e 1 :=
  ⟨h1, fun h => absurd h (by decide), fun h => absurd h (by decide), fun h => absurd h (by decide), fun h => absurd h (by decide), fun h => absurd h (by decide), fun h => absurd h (by decide), fun h => absurd h (by decide), h0⟩
theorem prev_blank {i : Nat} {rest : List UInt8} (h : s.drop i = 32 :: rest) : Prev s (i + 1) := .inr (by rw [Nat.add_sub_cancel, (drop_get h).1]; decide)
theorem prev_open {i : Nat} {c : UInt8} {rest : List UInt8} (h : s.drop i = c :: rest) (hc : wordB c = false) : Prev s (i + 1) := .inr (by rw [Nat.add_sub_cancel, (drop_get h).1]; exact hc)
/-- a single sign -/
theorem sign_at {i : Nat} {c : UInt8} {rest : List UInt8} (h : s.drop i = c :: rest) (h1 : lowB c = false) (h2 : digB c = false) (h3 : c ≠ 64 ∧ c ≠ 35 ∧ c ≠ 39 ∧ c ≠ 123) (h4 : ∀ d r, rest = d :: r → twoB c d = false) (h32 : c ≠ 32) (hw : wordB c = false) : wordsOf s i = ⟨i, [c], false⟩ :: wordsOf s (i + 1) :=
  word_at (w := [c]) (rest := rest) h rfl h32 (len_one h1 h2 h3 h4) (.inr hw)
theorem two_no {c : UInt8} (h : c ≠ 60 ∧ c ≠ 62) (rest : List UInt8) : ∀ d r, rest = d :: r → twoB c d = false := fun d r _ => by
  unfold twoB
  simp [h.1, h.2]
theorem open_at {i : Nat} {rest : List UInt8} (h : s.drop i = 40 :: rest) : wordsOf s i = ⟨i, [40], false⟩ :: wordsOf s (i + 1) := sign_at h (by decide) (by decide) (by decide) (two_no (by decide) _) (by decide) (by decide)
theorem shut_at {i : Nat} {rest : List UInt8} (h : s.drop i = 41 :: rest) : wordsOf s i = ⟨i, [41], false⟩ :: wordsOf s (i + 1) := sign_at h (by decide) (by decide) (by decide) (two_no (by decide) _) (by decide) (by decide)
theorem comma_at {i : Nat} {rest : List UInt8} (h : s.drop i = 44 :: rest) : wordsOf s i = ⟨i, [44], false⟩ :: wordsOf s (i + 1) := sign_at h (by decide) (by decide) (by decide) (two_no (by decide) _) (by decide) (by decide)
theorem colon_at {i : Nat} {rest : List UInt8} (h : s.drop i = 58 :: rest) : wordsOf s i = ⟨i, [58], false⟩ :: wordsOf s (i + 1) := sign_at h (by decide) (by decide) (by decide) (two_no (by decide) _) (by decide) (by decide)
theorem dash_at {i : Nat} {rest : List UInt8} (h : s.drop i = 45 :: rest) : wordsOf s i = ⟨i, [45], false⟩ :: wordsOf s (i + 1) := sign_at h (by decide) (by decide) (by decide) (two_no (by decide) _) (by decide) (by decide)
theorem stop_cons {c : UInt8} {r : List UInt8} (h : c = 32 ∨ c = 41 ∨ c = 44) : Stop (c :: r) := fun d r' e => by injection e with e; subst e; exact h
/-- a part in brackets -/
theorem paren {w : List UInt8} {e : Ex} {r : Int} (h : ClW s w e r) : ClW s (40 :: (w ++ [41])) e 8 := by
  have hf : HW s (40 :: (w ++ [41])) [40] := fun i rest h1 _ _ => ⟨_, open_at (rest := (w ++ [41]) ++ rest) (by rw [h1]; rfl)⟩
  refine ClW.of8 ?_ hf (by decide) (by decide) (by simp)
  intro i rest h1 h2 h3 _
  have hd : s.drop i = 40 :: (w ++ 41 :: rest) := by rw [h1]; simp
  have hd1 : s.drop (i + 1) = w ++ 41 :: rest := drop_split (w := [40]) hd
  have hd2 : s.drop (i + 1 + w.length) = 41 :: rest := drop_split hd1
  have hor := h.or (i + 1) (41 :: rest) hd1 (stop_cons (.inr (.inl rfl))) (prev_open hd (by decide)) (by rw [shut_at hd2]; exact fo_word (.inl rfl))
  rw [open_at hd, Pz_eq]
  show (Pz s.length .or [] (wordsOf s (i + 1))).bind _ = _
  rw [hor, shut_at hd2]
  show Res.ok [e] (wordsOf s (i + 1 + w.length + 1)) = _
  congr 2
  simp
  omega
theorem part_cl {a : Ex} (h : ClW s a.text a (rowN a)) (least : Int) (hl : least ≤ 8) : ∃ r, least ≤ r ∧ ClW s (parT (decide (rowN a < least)) a.text) a r := by
  unfold parT
  by_cases hr : rowN a < least
  · rw [decide_eq_true hr, if_pos rfl]
    exact ⟨8, hl, paren h⟩
  · rw [decide_eq_false hr, if_neg (by decide)]
    exact ⟨rowN a, by omega, h⟩
end
end Go.Proofs.YtobanldeicclmaaGreatDoor
namespace Go.Proofs.YtobanldeicclmaaGreatDoor
theorem fault_part {e : Ex} (h : e.fault = 0) : partF e = 0 := by
  rw [fault_eq] at h
  split at h
  · rename_i h1; exact absurd h h1
  · rename_i h1; exact Decidable.not_not.1 h1
theorem faultL_mem : ∀ {l : List Ex}, faultL l = 0 → ∀ a ∈ l, a.fault = 0
  | b :: r, h, a, ha => by
    rw [faultL] at h
    split at h
    · rename_i h1; exact absurd h h1
    · rename_i h1
      rcases List.mem_cons.1 ha with e | e
      · rw [e]; exact Decidable.not_not.1 h1
      · exact faultL_mem h a e
theorem fault_arg {e : Ex} (h : e.fault = 0) : ∀ a ∈ e.ar, a.fault = 0 := by
  have hp := fault_part h
  rw [fault_eq, if_neg (by rw [hp]; decide)] at h
  exact faultL_mem h
/-- what a part without fault is -/
structure PartOk (e : Ex) : Prop where
  k : 1 ≤ e.k ∧ e.k ≤ 5
  c : e.k = 1 → 2 ≤ e.v.k ∧ e.v.k ≤ 7
  a0 : e.k = 1 ∨ e.k = 2 ∨ e.k = 3 → e.ar = []
  op4 : e.k = 4 → 1 ≤ e.op ∧ e.op ≤ 39
  op5 : e.k = 5 → 1 ≤ e.op ∧ e.op ≤ 6
  a4 : e.k = 4 → (arOf e.op).1 ≤ e.ar.length ∧ e.ar.length ≤ (arOf e.op).2
  a5 : e.k = 5 → e.ar.length = 1
theorem outB_no {a b k : Int} (h : outB k a b = false) : a ≤ k ∧ k ≤ b := by
  unfold outB at h
  simp at h
  omega
theorem partOk {e : Ex} (h : partF e = 0) : PartOk e := by
  unfold partF partB at h
  by_cases c1 : outB e.k 1 5 = true
  · rw [if_pos c1] at h; exact absurd h (by decide)
  rw [if_neg c1] at h
  by_cases c2 : e.k = 4 ∧ outB e.op 1 39 = true
  · rw [if_pos c2] at h; exact absurd h (by decide)
  rw [if_neg c2] at h
  by_cases c3 : e.k = 5 ∧ outB e.op 1 6 = true
  · rw [if_pos c3] at h; exact absurd h (by decide)
  rw [if_neg c3] at h
  by_cases c4 : extraB e.k e.op e.nm e.v e.ar.length = true
  · rw [if_pos c4] at h; exact absurd h (by decide)
  rw [if_neg c4] at h
  have hk := outB_no (Bool.not_eq_true _ ▸ c1)
  unfold extraB at c4
  split at c4
  · exact absurd rfl c4
  rename_i hx
  refine ⟨hk, fun e1 => ?_, fun e1 => ?_, fun e1 => ?_, fun e1 => ?_, fun e1 => ?_, fun e1 => ?_⟩
  · rw [if_pos e1] at h
    split at h
    · exact absurd h (by decide)
    · rename_i hv
      unfold checkV at h
      split at h
      · exact absurd h (by decide)
      · rename_i hr
        have := outB_no (Bool.not_eq_true _ ▸ hr)
        omega
  · refine List.eq_nil_of_length_eq_zero ?_
    by_cases h0 : 0 < e.ar.length
    · exact absurd (Or.inr (Or.inl ⟨by omega, Or.inr h0⟩)) hx
    · omega
  · exact outB_no (Bool.not_eq_true _ ▸ fun q => c2 ⟨e1, q⟩)
  · exact outB_no (Bool.not_eq_true _ ▸ fun q => c3 ⟨e1, q⟩)
  · rw [if_neg (by omega)] at c4
    simp [e1] at c4
    exact c4
  · rw [if_pos e1] at c4
    simpa using c4
end Go.Proofs.YtobanldeicclmaaGreatDoor
