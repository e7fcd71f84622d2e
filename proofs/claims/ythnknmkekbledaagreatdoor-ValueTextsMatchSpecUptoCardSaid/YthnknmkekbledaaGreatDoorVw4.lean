/- The walk of readDay. -/
import Derived.Test.YthnknmkekbledaaGreatDoorVw3
import Derived.Test.YthnknmkekbledaaGreatDoorDate
import Derived.RegionTactic
namespace Go.Proofs.YthnknmkekbledaaGreatDoor
open Go.RowKit Dig Vtx

theorem whole_zero {l : List UInt8} {a : Nat} (h : wholeF l = (a, false)) : a = 0 := by
  unfold wholeF at h
  split at h
  · injection h with h _; exact h.symm
  · split at h
    · injection h with _ h; cases h
    · injection h with h _; exact h.symm
theorem dk_eq (y m d : Int) : dk y m d = dateK y m d ∧ dn y m d = dateN y m d := ⟨rfl, rfl⟩
theorem dk_yes {y m d : Int} (h : Cal.okDate y m d = true) : dk y m d = 6 ∧ dn y m d = Cal.num y m d := by unfold dk dn; rw [if_pos h, if_pos h]; exact ⟨rfl, rfl⟩
theorem dk_no {y m d : Int} (h : Cal.okDate y m d = false) : dk y m d = 0 ∧ dn y m d = 0 := by unfold dk dn; rw [h]; exact ⟨rfl, rfl⟩
theorem ok_zero {y m d : Int} (h : y = 0 ∨ m = 0 ∨ d = 0) : Cal.okDate y m d = false := by
  rw [Bool.eq_false_iff]
  intro e
  rw [Cal.okDate_iff] at e
  omega
theorem day_len {r : List UInt8} (h : (Lib.split r [45]).length ≠ 3) : readDayF r = none := by
  unfold readDayF
  split
  · rename_i e; rw [e] at h; exact absurd rfl h
  · rfl
set_option maxHeartbeats 4000000 in
set_option maxRecDepth 100000 in
theorem readDay_any (s : ByteArray) (w : World) (hs : s.size ≤ 2000000) (h1 : 1 ≤ s.size) (hm : Mx w) :
    Calls Tryz.prog 41 #[.string s] w fun e w' => e = .returned (optV 6 (readDayF s.data.toList.tail)) ∧ Below w.heap.size w w' := by
  have HM := Lib.hid hm
  clear hm
  have HX := Lib.hid (show (s.extract 1 s.size).data.toList = s.data.toList.tail by
    rw [Lib.extract_data, List.take_of_length_le (by simp), List.drop_one])
  have hxl : (s.extract 1 s.size).size ≤ 2000000 := by rw [ByteArray.size_extract]; omega
  go_enter Tryz.func41, Tryz.ntmps41
  go_wp2_with fail
  obtain ⟨W, hW⟩ : ∃ W, W = (w.alloc (.cells #[.int .i64 0, .int .i64 0, .string ⟨#[]⟩, .slice none 0 0] 24 (0, 0))) := ⟨_, rfl⟩
  have hbw : Below w.heap.size w W := by rw [hW]; exact ((Below.refl _ w).alloc (Nat.le_refl _) _)
  have B0 : Blk W (w.heap.size) 24 #[.int .i64 0, .int .i64 0, .string ⟨#[]⟩, .slice none 0 0] := by
    rw [hW]
    have := Blk.new w 24 #[.int .i64 0, .int .i64 0, .string ⟨#[]⟩, .slice none 0 0]
    exact this
  have hsz : W.heap.size = w.heap.size + 1 := by rw [hW]; simp
  rw [← hW]
  clear hW hsz
  refine (split_any _ 45 W hxl (HM.out.below hbw)).mono ?_
  rintro e w1 ⟨ps, rfl, hw1, hps, hpl⟩
  rw [HX.out] at hps
  have hb1 : Below W.heap.size W w1 := hw1 ▸ (Below.refl _ W).alloc (Nat.le_refl _) _
  have B1 : Blk w1 W.heap.size 9 (ps.map Value.string).toArray := hw1 ▸ Blk.new W _ _
  have hlen : (Lib.split s.data.toList.tail [45]).length = ps.length := by rw [← hps]; simp
  have HPS := Lib.hid hps
  have B0 := B0.below hb1 B0.lt
  have hbw := hbw.trans (hb1.mono hbw.size)
  have hpm : ps.length ≤ 2000001 := by omega
  clear hps hw1 hb1 hpl
  have rc0 : w1.cell? ⟨w.heap.size, 0, none⟩ = some (.int .i64 0) := B0.cell 0
  have rz0 : w1.frozen? ⟨w.heap.size, 0, none⟩ = false := B0.frozen 0
  have rc1 : w1.cell? ⟨w.heap.size, 1, none⟩ = some (.int .i64 0) := B0.cell 1
  have rz1 : w1.frozen? ⟨w.heap.size, 1, none⟩ = false := B0.frozen 1
  have rc2 : w1.cell? ⟨w.heap.size, 2, none⟩ = some (.string ⟨#[]⟩) := B0.cell 2
  have rz2 : w1.frozen? ⟨w.heap.size, 2, none⟩ = false := B0.frozen 2
  have rc3 : w1.cell? ⟨w.heap.size, 3, none⟩ = some (.slice none 0 0) := B0.cell 3
  have rz3 : w1.frozen? ⟨w.heap.size, 3, none⟩ = false := B0.frozen 3
  by_cases h3 : ps.length = 3
  rotate_left
  · have HE := Lib.hid (show optV 6 (readDayF s.data.toList.tail) = .tuple #[.agg #[.int .i64 0, .int .i64 0, .string ⟨#[]⟩, .slice none 0 0], .bool false] by rw [day_len (by rw [hlen]; exact h3)]; rfl)
    have h3b : (((ps.length : Nat) : Int) != 3) = true := by simp; omega
    clear hlen h3
    go_wp2
    obtain ⟨W9, hW9⟩ : ∃ W9, W9 = (((w1.setCell ⟨w.heap.size, 0, none⟩ (.int .i64 0)).setCell ⟨w.heap.size, 1, none⟩ (.int .i64 0)).setCell ⟨w.heap.size, 2, none⟩ (.string ⟨#[]⟩)).setCell ⟨w.heap.size, 3, none⟩ (.slice none 0 0) := ⟨_, rfl⟩
    have B9 : Blk W9 (w.heap.size) 24 #[.int .i64 0, .int .i64 0, .string ⟨#[]⟩, .slice none 0 0] := hW9 ▸ ((((B0.set_ 0 _).set_ 1 _).set_ 2 _).set_ 3 _)
    have hbw9 : Below w.heap.size w W9 := hW9 ▸ ((((hbw.setCell (p := ⟨w.heap.size, 0, none⟩) (Nat.le_refl _) _).setCell (p := ⟨w.heap.size, 1, none⟩) (Nat.le_refl _) _).setCell (p := ⟨w.heap.size, 2, none⟩) (Nat.le_refl _) _).setCell (p := ⟨w.heap.size, 3, none⟩) (Nat.le_refl _) _)
    rw [← hW9]
    clear hW9
    have qc0 : W9.cell? ⟨w.heap.size, 0, none⟩ = some (.int .i64 0) := B9.cell 0
    have qc1 : W9.cell? ⟨w.heap.size, 1, none⟩ = some (.int .i64 0) := B9.cell 1
    have qc2 : W9.cell? ⟨w.heap.size, 2, none⟩ = some (.string ⟨#[]⟩) := B9.cell 2
    have qc3 : W9.cell? ⟨w.heap.size, 3, none⟩ = some (.slice none 0 0) := B9.cell 3
    refine bodyPost_ret (v := .tuple #[.agg #[.int .i64 0, .int .i64 0, .string ⟨#[]⟩, .slice none 0 0], .bool false]) (by simp [results, Tryz.results41, go_sem, qc0, qc1, qc2, qc3]) rfl ⟨ret_val HE.out.symm, hbw9⟩
  obtain ⟨p1, p2, p3, rfl⟩ : ∃ p1 p2 p3, ps = [p1, p2, p3] := by
    rcases ps with _ | ⟨p1, _ | ⟨p2, _ | ⟨p3, _ | ⟨p4, r⟩⟩⟩⟩ <;> simp at h3
    exact ⟨_, _, _, rfl⟩
  have pc0 : w1.cell? ⟨W.heap.size, 0, none⟩ = some (.string p1) := B1.cell 0
  have pc1 : w1.cell? ⟨W.heap.size, 1, none⟩ = some (.string p2) := B1.cell 1
  have pc2 : w1.cell? ⟨W.heap.size, 2, none⟩ = some (.string p3) := B1.cell 2
  obtain ⟨y, ok1, hw1, hv1, ha1⟩ := wholeV_form p1.data.toList
  obtain ⟨m, ok2, hw2, hv2, ha2⟩ := wholeV_form p2.data.toList
  obtain ⟨d, ok3, hw3, hv3, ha3⟩ := wholeV_form p3.data.toList
  have HV1 := Lib.hid hv1
  have HV2 := Lib.hid hv2
  have HV3 := Lib.hid hv3
  have HR := Lib.hid (show readDayF s.data.toList.tail = if ok1 && ok2 && ok3 && Cal.okDate y m d then some (Cal.num y m d) else none by
    unfold readDayF
    rw [← HPS.out]
    simp only [List.map_cons, List.map_nil]
    rw [hw1, hw2, hw3])
  have HZ := Lib.hid (show (ok1 = false → y = 0) ∧ (ok2 = false → m = 0) ∧ (ok3 = false → d = 0) from
    ⟨fun h => whole_zero (h ▸ hw1), fun h => whole_zero (h ▸ hw2), fun h => whole_zero (h ▸ hw3)⟩)
  clear hw1 hw2 hw3 hv1 hv2 hv3 h3 hlen HPS hpm
  go_wp2_with fail
  refine (whole_any p1 w1).mono ?_
  rw [HV1.out]
  rintro e w2 ⟨rfl, rfl⟩
  go_wp2_with fail
  refine (whole_any p2 w1).mono ?_
  rw [HV2.out]
  rintro e w2 ⟨rfl, rfl⟩
  go_wp2_with fail
  refine (whole_any p3 w1).mono ?_
  rw [HV3.out]
  rintro e w2 ⟨rfl, rfl⟩
  clear HV1 HV2 HV3 pc0 pc1 pc2 rc0 rz0 rc1 rz1 rc2 rz2 rc3 rz3
  go_wp2_with fail
  refine (Date_any y m d w1).mono ?_
  rintro e w2 ⟨rfl, hb2⟩
  have B0 := B0.below hb2 B0.lt
  have hbw := hbw.trans (hb2.mono hbw.size)
  have hs2 := hbw.size
  obtain ⟨ok, hok⟩ : ∃ ok, Cal.okDate y m d = ok := ⟨_, rfl⟩
  obtain ⟨K, N, hK, hN, hr⟩ : ∃ K N : Int, dk y m d = K ∧ dn y m d = N ∧ ((ok1 = true ∧ ok2 = true ∧ ok3 = true ∧ K = 6 ∧ optV 6 (readDayF s.data.toList.tail) = .tuple #[.agg #[.int .i64 6, .int .i64 N, .string ⟨#[]⟩, .slice none 0 0], .bool true]) ∨
      (K = 0 ∧ N = 0 ∧ optV 6 (readDayF s.data.toList.tail) = .tuple #[.agg #[.int .i64 0, .int .i64 0, .string ⟨#[]⟩, .slice none 0 0], .bool false])) := by
    refine ⟨_, _, rfl, rfl, ?_⟩
    rw [HR.out]
    cases ok
    · right
      refine ⟨(dk_no hok).1, (dk_no hok).2, ?_⟩
      rw [hok, Bool.and_false, if_neg (by simp)]; rfl
    · cases ok1
      · exact absurd (ok_zero (y := y) (m := m) (d := d) (.inl (by have := HZ.out.1 rfl; omega))) (by rw [hok]; simp)
      · cases ok2
        · exact absurd (ok_zero (y := y) (m := m) (d := d) (.inr (.inl (by have := HZ.out.2.1 rfl; omega)))) (by rw [hok]; simp)
        · cases ok3
          · exact absurd (ok_zero (y := y) (m := m) (d := d) (.inr (.inr (by have := HZ.out.2.2 rfl; omega)))) (by rw [hok]; simp)
          · left
            refine ⟨rfl, rfl, rfl, (dk_yes hok).1, ?_⟩
            rw [hok, (dk_yes hok).2]; rfl
  rw [hK, hN]
  clear hK hN hok hb2 HR HZ
  go_upto_region 8 with (fail)
  obtain ⟨W3, hW3⟩ : ∃ W3, W3 = w2.alloc (.cells #[.int .i64 K, .int .i64 N, .string ⟨#[]⟩, .slice none 0 0] 24 (0, 0)) := ⟨_, rfl⟩
  have hb3 : Below w2.heap.size w2 W3 := hW3 ▸ (Below.refl _ w2).alloc (Nat.le_refl _) _
  have B3 : Blk W3 w2.heap.size 24 #[.int .i64 K, .int .i64 N, .string ⟨#[]⟩, .slice none 0 0] := hW3 ▸ Blk.new w2 _ _
  have hlt := B0.lt
  have B0 := B0.below hb3 B0.lt
  have hbw := hbw.trans (hb3.mono hbw.size)
  rw [← hW3]
  clear hW3 hb3
  have rc0 : W3.cell? ⟨w.heap.size, 0, none⟩ = some (.int .i64 0) := B0.cell 0
  have rz0 : W3.frozen? ⟨w.heap.size, 0, none⟩ = false := B0.frozen 0
  have rc1 : W3.cell? ⟨w.heap.size, 1, none⟩ = some (.int .i64 0) := B0.cell 1
  have rz1 : W3.frozen? ⟨w.heap.size, 1, none⟩ = false := B0.frozen 1
  have rc2 : W3.cell? ⟨w.heap.size, 2, none⟩ = some (.string ⟨#[]⟩) := B0.cell 2
  have rz2 : W3.frozen? ⟨w.heap.size, 2, none⟩ = false := B0.frozen 2
  have rc3 : W3.cell? ⟨w.heap.size, 3, none⟩ = some (.slice none 0 0) := B0.cell 3
  have rz3 : W3.frozen? ⟨w.heap.size, 3, none⟩ = false := B0.frozen 3
  rcases hr with ⟨rfl, rfl, rfl, rfl, hE⟩ | ⟨rfl, rfl, hE⟩
  · have HE := Lib.hid hE
    clear hE
    have uc0 : W3.cell? ⟨w2.heap.size, 0, none⟩ = some (.int .i64 6) := B3.cell 0
    have uc1 : W3.cell? ⟨w2.heap.size, 1, none⟩ = some (.int .i64 N) := B3.cell 1
    have uc2 : W3.cell? ⟨w2.heap.size, 2, none⟩ = some (.string ⟨#[]⟩) := B3.cell 2
    have uc3 : W3.cell? ⟨w2.heap.size, 3, none⟩ = some (.slice none 0 0) := B3.cell 3
    go_region
    all_goals
      go_wp2
      obtain ⟨W9, hW9⟩ : ∃ W9, W9 = (((W3.setCell ⟨w.heap.size, 0, none⟩ (.int .i64 6)).setCell ⟨w.heap.size, 1, none⟩ (.int .i64 N)).setCell ⟨w.heap.size, 2, none⟩ (.string ⟨#[]⟩)).setCell ⟨w.heap.size, 3, none⟩ (.slice none 0 0) := ⟨_, rfl⟩
      have B9 : Blk W9 (w.heap.size) 24 #[.int .i64 6, .int .i64 N, .string ⟨#[]⟩, .slice none 0 0] := hW9 ▸ ((((B0.set_ 0 _).set_ 1 _).set_ 2 _).set_ 3 _)
      have hbw9 : Below w.heap.size w W9 := hW9 ▸ ((((hbw.setCell (p := ⟨w.heap.size, 0, none⟩) (Nat.le_refl _) _).setCell (p := ⟨w.heap.size, 1, none⟩) (Nat.le_refl _) _).setCell (p := ⟨w.heap.size, 2, none⟩) (Nat.le_refl _) _).setCell (p := ⟨w.heap.size, 3, none⟩) (Nat.le_refl _) _)
      rw [← hW9]
      clear hW9
      have qc0 : W9.cell? ⟨w.heap.size, 0, none⟩ = some (.int .i64 6) := B9.cell 0
      have qc1 : W9.cell? ⟨w.heap.size, 1, none⟩ = some (.int .i64 N) := B9.cell 1
      have qc2 : W9.cell? ⟨w.heap.size, 2, none⟩ = some (.string ⟨#[]⟩) := B9.cell 2
      have qc3 : W9.cell? ⟨w.heap.size, 3, none⟩ = some (.slice none 0 0) := B9.cell 3
      refine bodyPost_ret (v := .tuple #[.agg #[.int .i64 6, .int .i64 N, .string ⟨#[]⟩, .slice none 0 0], .bool true]) (by simp [results, Tryz.results41, go_sem, qc0, qc1, qc2, qc3]) rfl ⟨ret_val HE.out.symm, hbw9.drew⟩
  · have HE := Lib.hid hE
    clear hE
    have uc0 : W3.cell? ⟨w2.heap.size, 0, none⟩ = some (.int .i64 0) := B3.cell 0
    have uc1 : W3.cell? ⟨w2.heap.size, 1, none⟩ = some (.int .i64 0) := B3.cell 1
    have uc2 : W3.cell? ⟨w2.heap.size, 2, none⟩ = some (.string ⟨#[]⟩) := B3.cell 2
    have uc3 : W3.cell? ⟨w2.heap.size, 3, none⟩ = some (.slice none 0 0) := B3.cell 3
    cases ok1 <;> cases ok2 <;> cases ok3
    all_goals
      go_region
      all_goals
        go_wp2
        obtain ⟨W9, hW9⟩ : ∃ W9, W9 = (((W3.setCell ⟨w.heap.size, 0, none⟩ (.int .i64 0)).setCell ⟨w.heap.size, 1, none⟩ (.int .i64 0)).setCell ⟨w.heap.size, 2, none⟩ (.string ⟨#[]⟩)).setCell ⟨w.heap.size, 3, none⟩ (.slice none 0 0) := ⟨_, rfl⟩
        have B9 : Blk W9 (w.heap.size) 24 #[.int .i64 0, .int .i64 0, .string ⟨#[]⟩, .slice none 0 0] := hW9 ▸ ((((B0.set_ 0 _).set_ 1 _).set_ 2 _).set_ 3 _)
        have hbw9 : Below w.heap.size w W9 := hW9 ▸ ((((hbw.setCell (p := ⟨w.heap.size, 0, none⟩) (Nat.le_refl _) _).setCell (p := ⟨w.heap.size, 1, none⟩) (Nat.le_refl _) _).setCell (p := ⟨w.heap.size, 2, none⟩) (Nat.le_refl _) _).setCell (p := ⟨w.heap.size, 3, none⟩) (Nat.le_refl _) _)
        rw [← hW9]
        clear hW9
        have qc0 : W9.cell? ⟨w.heap.size, 0, none⟩ = some (.int .i64 0) := B9.cell 0
        have qc1 : W9.cell? ⟨w.heap.size, 1, none⟩ = some (.int .i64 0) := B9.cell 1
        have qc2 : W9.cell? ⟨w.heap.size, 2, none⟩ = some (.string ⟨#[]⟩) := B9.cell 2
        have qc3 : W9.cell? ⟨w.heap.size, 3, none⟩ = some (.slice none 0 0) := B9.cell 3
        refine bodyPost_ret (v := .tuple #[.agg #[.int .i64 0, .int .i64 0, .string ⟨#[]⟩, .slice none 0 0], .bool false]) (by simp [results, Tryz.results41, go_sem, qc0, qc1, qc2, qc3]) rfl ⟨ret_val HE.out.symm, hbw9.drew⟩
end Go.Proofs.YthnknmkekbledaaGreatDoor
