/- The walk of the law: a value's text comes back, and a text's value. -/
import Derived.Test.YthnknmkekbledaaDoorVw10
import Derived.Test.YthnknmkekbledaaDoorSame
namespace Go.Proofs.YthnknmkekbledaaDoor
open Go.RowKit Dig Vtx

theorem zeros_len (n : Nat) : (zeros n).length = n := by simp [zeros]
theorem trimR_len (l : List UInt8) (c : UInt8) : (Lib.trimRightB l c).length ≤ l.length := by
  unfold Lib.trimRightB
  rw [List.length_reverse]
  have := (List.dropWhile_sublist (fun x => x == c) (l := l.reverse)).length_le
  simpa using this
theorem itoa_len {n : Int} (h1 : 0 ≤ n) (h2 : n < 100000000000000000000) : (Lib.itoa n).length ≤ 20 := by
  obtain ⟨m, rfl⟩ := Int.eq_ofNat_of_zero_le h1
  rw [itoa_nat]
  exact dec_len 19 m (by omega)
theorem padT_len {w : Nat} {n : Int} (h1 : 0 ≤ n) (h2 : n < 100000000000000000000) : (padT w n).length ≤ w + 20 := by
  have := itoa_len h1 h2
  unfold padT
  rw [List.length_append, zeros_len]
  omega
theorem civ_bd' {n : Int} (h1 : -25567 ≤ n) (h2 : n ≤ 84005) : 1900 ≤ Cal.cy n ∧ Cal.cy n ≤ 2199 ∧ 1 ≤ Cal.cm n ∧ Cal.cm n ≤ 12 ∧ 1 ≤ Cal.cd n ∧ Cal.cd n ≤ 31 := by
  have h := Cal.civ_spec h1 h2
  obtain ⟨h3, h4⟩ := Cal.range_year h1 h2 h.year.1 h.year.2
  have := Cal.dim_bd (Cal.cy n) (Cal.cm n)
  have := h.d2
  exact ⟨h3, h4, h.m1, h.m2, h.d1, by omega⟩
theorem showT_len {k n : Int} {s : List UInt8} {l : List Int} (h : Snd k n s l) (h1 : s.length ≤ 200) (h2 : l.length ≤ 40) : (showT k n s l).length ≤ 1000 := by
  cases h with
  | none_ => simp [showT]
  | word a b => obtain rfl | rfl | rfl : n = 1 ∨ n = 2 ∨ n = 3 := by omega
                all_goals simp [showT, wordT, w1T, w2T, w3T]
  | num a b =>
    have e1 := itoa_len (n := absI n / 10000) (by unfold absI; split <;> omega) (by unfold absI; split <;> omega)
    have e2 := padT_len (w := 4) (n := absI n % 10000) (by omega) (by omega)
    have e3 := trimR_len (padT 4 (absI n % 10000)) 48
    show (numT n).length ≤ _
    unfold numT
    have e4 : (fracT (absI n % 10000)).length ≤ 24 := by unfold fracT; omega
    simp only [List.length_append]
    have e5 : (if n < 0 then [45] else ([] : List UInt8)).length ≤ 1 := by split <;> simp
    have e6 : (if fracT (absI n % 10000) = [] then ([] : List UInt8) else 46 :: fracT (absI n % 10000)).length ≤ 25 := by
      split
      · simp
      · rw [List.length_cons]; omega
    omega
  | text =>
    show (textT s).length ≤ _
    have := esc_len s
    simp only [textT, List.length_cons, List.length_append, List.length_nil]
    omega
  | code a b =>
    show (codeT n).length ≤ _
    have := code_len ⟨a, b⟩
    omega
  | set a =>
    show (setT l).length ≤ _
    have := joinT_len l a
    simp only [setT, List.length_cons, List.length_append, List.length_nil]
    omega
  | day a b =>
    show (dayT n).length ≤ _
    obtain ⟨b1, b2, b3, b4, b5, b6⟩ := civ_bd' a b
    have e1 := padT_len (w := 4) (n := Cal.cy n) (by omega) (by omega)
    have e2 := padT_len (w := 2) (n := Cal.cm n) (by omega) (by omega)
    have e3 := padT_len (w := 2) (n := Cal.cd n) (by omega) (by omega)
    simp only [dayT, List.length_cons, List.length_append, List.length_nil]
    omega
  | bool a b => obtain rfl | rfl : n = 0 ∨ n = 1 := by omega
                all_goals simp [showT, trueT, falseT]
/-- the text that a sound value shows is read as that value -/
theorem back_one {x y : Val} (hx : checkV x = 0) (hy : checkV y = 0) (h : showT y.k y.n y.s.data.toList y.l = showT x.k x.n x.s.data.toList x.l) : x = y := by
  have g1 := guess_show (snd_of hx).1
  have g2 := guess_show (snd_of hy).1
  rw [h, g1] at g2
  exact val_ext (Option.some.inj g2)
theorem same_self (x : Val) : sameV x x = true := by simp [sameV]

set_option maxHeartbeats 2000000 in
set_option maxRecDepth 100000 in
theorem textsBack_any (x : Val) (A : Option Addr) (c : Nat) (s : ByteArray) (w : World) (hl : x.l.length ≤ maxLen) (hs : x.s.size ≤ maxLen) (hx : Reads w w.heap.size 1 A x.l.length (numV .i64 x.l)) (hz : s.size ≤ 2000000) (htab : Tab w) (hm : Mx w) :
    Calls Tryd.prog 3 #[.agg #[.int .i64 x.k, .int .i64 x.n, .string x.s, .slice A x.l.length c], .string s] w fun e w' => e = .returned (.bool true) ∧ Below w.heap.size w w' := by
  have HT := Lib.hid htab
  have HM := Lib.hid hm
  have HX := Lib.hid hx
  clear htab hm hx
  go_enter Tryd.func3, Tryd.ntmps3
  go_wp2_with fail
  obtain ⟨W, hW⟩ : ∃ W, W = (w.alloc (.cells #[.int .i64 x.k, .int .i64 x.n, .string x.s, .slice A x.l.length c] 24 (0, 0))) := ⟨_, rfl⟩
  have hbw : Below w.heap.size w W := by rw [hW]; exact ((Below.refl _ w).alloc (Nat.le_refl _) _)
  have B0 : Blk W (w.heap.size) 24 #[.int .i64 x.k, .int .i64 x.n, .string x.s, .slice A x.l.length c] := by
    rw [hW]
    have := Blk.new w 24 #[.int .i64 x.k, .int .i64 x.n, .string x.s, .slice A x.l.length c]
    exact this
  have hsz : W.heap.size = w.heap.size + 1 := by rw [hW]; simp
  rw [← hW]
  clear hW hsz
  have HXW := Lib.hid ((HX.out.below hbw).more hbw.size)
  refine (Show_any x A c W hl hs HXW.out (HT.out.below hbw) (HM.out.below hbw)).mono ?_
  rintro e w1 ⟨⟨t, rfl, ht⟩, hb1⟩
  have HTT := Lib.hid ht
  have B0 := B0.below hb1 B0.lt
  have HX1 := Lib.hid ((HXW.out.below hb1).more hb1.size)
  have hbw := hbw.trans (hb1.mono hbw.size)
  obtain ⟨f, hf⟩ : ∃ f, checkV x = f := ⟨_, rfl⟩
  have HF := Lib.hid hf
  rw [hf]
  clear hf hb1 ht
  by_cases h0 : f = 0
  rotate_left
  · have hne : (f == 0) = false := by simpa using h0
    clear h0
    go_wp2_with fail
    refine (Read_any s w1 hz (HT.out.below hbw) (HM.out.below hbw)).mono ?_
    rintro e w5 ⟨hg, hb5⟩
    obtain ⟨y, A5, c5, f5, rfl, hrd5, hA5, hl5, hs5, q1, q2⟩ := hg.ex
    have HRD5 := Lib.hid hrd5
    have HQ5 := Lib.hid q1
    have hbw5 := hbw.trans (hb5.mono hbw.size)
    clear hg hb5 hrd5 hA5 q1 q2
    go_upto_region 7 with (fail)
    obtain ⟨W6, hW6⟩ : ∃ W6, W6 = w5.alloc (.cells #[.int .i64 y.k, .int .i64 y.n, .string y.s, .slice A5 y.l.length c5] 24 (0, 0)) := ⟨_, rfl⟩
    have hb6 : Below w5.heap.size w5 W6 := hW6 ▸ (Below.refl _ w5).alloc (Nat.le_refl _) _
    have B6 : Blk W6 w5.heap.size 24 #[.int .i64 y.k, .int .i64 y.n, .string y.s, .slice A5 y.l.length c5] := hW6 ▸ Blk.new w5 _ _
    rw [← hW6]
    have hbw6 := hbw5.trans (hb6.mono hbw5.size)
    have HRD6 := Lib.hid ((HRD5.out.below hb6).more hb6.size)
    clear hW6 hb6
    by_cases h5 : f5 = 0
    rotate_left
    · have hne5 : (f5 == 0) = false := by simpa using h5
      clear h5 HQ5
      go_wp2
      go_ret
      exact ⟨ret_bool rfl, hbw6⟩
    subst h5
    have HC5 := Lib.hid (HQ5.out rfl)
    have yc0 : W6.cell? ⟨w5.heap.size, 0, none⟩ = some (.int .i64 y.k) := B6.cell 0
    have yc1 : W6.cell? ⟨w5.heap.size, 1, none⟩ = some (.int .i64 y.n) := B6.cell 1
    have yc2 : W6.cell? ⟨w5.heap.size, 2, none⟩ = some (.string y.s) := B6.cell 2
    have yc3 : W6.cell? ⟨w5.heap.size, 3, none⟩ = some (.slice A5 y.l.length c5) := B6.cell 3
    go_wp2_with fail
    refine (Show_any y A5 c5 W6 (by unfold maxLen; omega) (by unfold maxLen; omega) HRD6.out (HT.out.below hbw6) (HM.out.below hbw6)).mono ?_
    rintro e w7 ⟨⟨t7, rfl, ht7⟩, hb7⟩
    have hbw7 := hbw6.trans (hb7.mono hbw6.size)
    have he7 : t7 = s := (ba_of ((ht7 HC5.out.1).trans HC5.out.2)).trans (ba_of (t := s) rfl).symm
    subst he7
    rw [HC5.out.1]
    have b7 : (t7.toList == t7.toList) = true := strEq_true rfl
    clear ht7 hb7 yc0 yc1 yc2 yc3
    go_wp2
    go_ret
    exact ⟨ret_bool (by simp), hbw7⟩
  subst h0
  have htt := HTT.out HF.out
  have htz : t.size ≤ 2000000 := by
    obtain ⟨g1, g2, g3⟩ := snd_of HF.out
    have := showT_len g1 (by simpa using g3) g2
    rw [← htt] at this
    have e : t.size = t.data.toList.length := by simp
    omega
  have HTS := Lib.hid htt
  clear htt
  go_wp2_with fail
  refine (Read_any t w1 htz (HT.out.below hbw) (HM.out.below hbw)).mono ?_
  rintro e w2 ⟨hg, hb2⟩
  obtain ⟨y0, A2, c2, f2, rfl, hrd2, hA2, hl2, hs2, q1, q2⟩ := hg.ex
  obtain rfl : f2 = 0 := Decidable.byContradiction fun h => (q2 h).2.2 x HF.out HTS.out.symm
  obtain rfl : x = y0 := back_one HF.out (q1 rfl).1 ((q1 rfl).2.trans HTS.out)
  have B0 := B0.below hb2 B0.lt
  have HX2 := Lib.hid ((HX1.out.below hb2).more hb2.size)
  have HRD2 := Lib.hid hrd2
  have hbw := hbw.trans (hb2.mono hbw.size)
  clear hg hb2 hrd2 hA2 q1 q2 hl2 hs2
  go_upto_region 4 with (fail)
  obtain ⟨W3, hW3⟩ : ∃ W3, W3 = w2.alloc (.cells #[.int .i64 x.k, .int .i64 x.n, .string x.s, .slice A2 x.l.length c2] 24 (0, 0)) := ⟨_, rfl⟩
  have hb3 : Below w2.heap.size w2 W3 := hW3 ▸ (Below.refl _ w2).alloc (Nat.le_refl _) _
  have B3 : Blk W3 w2.heap.size 24 #[.int .i64 x.k, .int .i64 x.n, .string x.s, .slice A2 x.l.length c2] := hW3 ▸ Blk.new w2 _ _
  rw [← hW3]
  have hlt := B0.lt
  have B0 := B0.below hb3 B0.lt
  have hbw := hbw.trans (hb3.mono hbw.size)
  have HRD3 := Lib.hid ((HRD2.out.below hb3).more hb3.size)
  have HX3 := Lib.hid ((HX2.out.below hb3).more hb3.size)
  clear hW3 hb3
  have vc0 : W3.cell? ⟨w.heap.size, 0, none⟩ = some (.int .i64 x.k) := B0.cell 0
  have vc1 : W3.cell? ⟨w.heap.size, 1, none⟩ = some (.int .i64 x.n) := B0.cell 1
  have vc2 : W3.cell? ⟨w.heap.size, 2, none⟩ = some (.string x.s) := B0.cell 2
  have vc3 : W3.cell? ⟨w.heap.size, 3, none⟩ = some (.slice A x.l.length c) := B0.cell 3
  have uc0 : W3.cell? ⟨w2.heap.size, 0, none⟩ = some (.int .i64 x.k) := B3.cell 0
  have uc1 : W3.cell? ⟨w2.heap.size, 1, none⟩ = some (.int .i64 x.n) := B3.cell 1
  have uc2 : W3.cell? ⟨w2.heap.size, 2, none⟩ = some (.string x.s) := B3.cell 2
  have uc3 : W3.cell? ⟨w2.heap.size, 3, none⟩ = some (.slice A2 x.l.length c2) := B3.cell 3
  go_wp2_with fail
  refine (same_any x x A2 A c2 c W3.heap.size W3.heap.size W3 hl hl HRD3.out HX3.out (Nat.le_refl _) (Nat.le_refl _)).mono ?_
  rintro e w4 ⟨rfl, hb4⟩
  rw [same_self]
  have hbw := hbw.trans (hb4.mono hbw.size)
  clear hb4 vc0 vc1 vc2 vc3 uc0 uc1 uc2 uc3
  go_wp2_with fail
  refine (Read_any s w4 hz (HT.out.below hbw) (HM.out.below hbw)).mono ?_
  rintro e w5 ⟨hg, hb5⟩
  obtain ⟨y, A5, c5, f5, rfl, hrd5, hA5, hl5, hs5, q1, q2⟩ := hg.ex
  have HRD5 := Lib.hid hrd5
  have HQ5 := Lib.hid q1
  have hbw5 := hbw.trans (hb5.mono hbw.size)
  clear hg hb5 hrd5 hA5 q1 q2
  go_upto_region 7 with (fail)
  obtain ⟨W6, hW6⟩ : ∃ W6, W6 = w5.alloc (.cells #[.int .i64 y.k, .int .i64 y.n, .string y.s, .slice A5 y.l.length c5] 24 (0, 0)) := ⟨_, rfl⟩
  have hb6 : Below w5.heap.size w5 W6 := hW6 ▸ (Below.refl _ w5).alloc (Nat.le_refl _) _
  have B6 : Blk W6 w5.heap.size 24 #[.int .i64 y.k, .int .i64 y.n, .string y.s, .slice A5 y.l.length c5] := hW6 ▸ Blk.new w5 _ _
  rw [← hW6]
  have hbw6 := hbw5.trans (hb6.mono hbw5.size)
  have HRD6 := Lib.hid ((HRD5.out.below hb6).more hb6.size)
  clear hW6 hb6
  by_cases h5 : f5 = 0
  rotate_left
  · have hne5 : (f5 == 0) = false := by simpa using h5
    clear h5 HQ5
    go_wp2
    go_ret
    exact ⟨ret_bool rfl, hbw6⟩
  subst h5
  have HC5 := Lib.hid (HQ5.out rfl)
  have yc0 : W6.cell? ⟨w5.heap.size, 0, none⟩ = some (.int .i64 y.k) := B6.cell 0
  have yc1 : W6.cell? ⟨w5.heap.size, 1, none⟩ = some (.int .i64 y.n) := B6.cell 1
  have yc2 : W6.cell? ⟨w5.heap.size, 2, none⟩ = some (.string y.s) := B6.cell 2
  have yc3 : W6.cell? ⟨w5.heap.size, 3, none⟩ = some (.slice A5 y.l.length c5) := B6.cell 3
  go_wp2_with fail
  refine (Show_any y A5 c5 W6 (by unfold maxLen; omega) (by unfold maxLen; omega) HRD6.out (HT.out.below hbw6) (HM.out.below hbw6)).mono ?_
  rintro e w7 ⟨⟨t7, rfl, ht7⟩, hb7⟩
  have hbw7 := hbw6.trans (hb7.mono hbw6.size)
  have he7 : t7 = s := (ba_of ((ht7 HC5.out.1).trans HC5.out.2)).trans (ba_of (t := s) rfl).symm
  subst he7
  rw [HC5.out.1]
  have b7 : (t7.toList == t7.toList) = true := strEq_true rfl
  clear ht7 hb7 yc0 yc1 yc2 yc3
  go_wp2
  go_ret
  exact ⟨ret_bool (by simp), hbw7⟩
end Go.Proofs.YthnknmkekbledaaDoor
