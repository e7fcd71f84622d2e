/- The walks of strings.Cut and Split in this family's words; readNumber. -/
import Derived.Test.YthnknmkekbledaaGreatDoorVw2
import Derived.Outline
namespace Go.Proofs.YthnknmkekbledaaGreatDoor
open Go.RowKit Dig Vtx

/-- the library's own variable holds some number -/
def Mx (w : World) : Prop := ∃ m, w.cell? ⟨0, 0, none⟩ = some (.int .i64 m)
theorem Mx.below {w w' : World} (h : Mx w) (hb : Below w.heap.size w w') : Mx w' := by
  obtain ⟨m, hm⟩ := h
  exact ⟨m, Below.cell_of hb hm⟩
theorem trimPre (s p : ByteArray) (w : World) :
    Calls Tryz.prog 47 #[.string s, .string p] w fun e w' => (∃ t : ByteArray, e = .returned (.string t) ∧ t.data.toList = Lib.trimPrefix s.data.toList p.data.toList) ∧ w = w' :=
  (Tryz.strings_TrimPrefix s p w).mono fun _ _ ⟨he, hw⟩ => ⟨⟨_, he, rfl⟩, hw.symm⟩
theorem cut_any (s : ByteArray) (c : UInt8) (w : World) (hs : s.size ≤ 2000000) (hm : Mx w) :
    Calls Tryz.prog 68 #[.string s, .string ⟨#[c]⟩] w fun e w' => (∃ a b : ByteArray, ∃ f : Bool, e = .returned (.tuple #[.string a, .string b, .bool f]) ∧ a.data.toList = (Lib.cut s.data.toList [c]).1 ∧ b.data.toList = (Lib.cut s.data.toList [c]).2.1) ∧ Below w.heap.size w w' := by
  obtain ⟨m, hm⟩ := hm
  exact (Tryz.strings_Cut s ⟨#[c]⟩ m w (by omega) hm).mono fun _ _ ⟨he, k, hw⟩ => ⟨⟨_, _, _, he, rfl, rfl⟩, hw ▸ (Below.refl _ _).drewN k⟩
theorem split_any (s : ByteArray) (c : UInt8) (w : World) (hs : s.size ≤ 2000000) (hm : Mx w) :
    Calls Tryz.prog 45 #[.string s, .string ⟨#[c]⟩] w fun e w' => ∃ ps : List ByteArray, e = .returned (.slice (some ⟨w.heap.size, 0, none⟩) ps.length ps.length) ∧ w' = w.alloc (.cells (ps.map Value.string).toArray 9) ∧ ps.map (·.data.toList) = Lib.split s.data.toList [c] ∧ ps.length ≤ s.size + 1 := by
  obtain ⟨m, hm⟩ := hm
  refine (Tryz.strings_Split s ⟨#[c]⟩ m w (by omega) hm (Nat.le_refl 1)).mono fun _ _ ⟨he, hw⟩ => ⟨Lib.splitB ⟨#[c]⟩ 0 (Lib.countB s ⟨#[c]⟩) s, ?_, hw, Lib.splitB_data _ _ _ _, ?_⟩
  · rw [he, Lib.splitB_all ⟨#[c]⟩ (Nat.le_refl 1) 0 _ s rfl]
  · rw [Lib.splitB_all ⟨#[c]⟩ (Nat.le_refl 1) 0 _ s rfl]
    have := Lib.countB_le ⟨#[c]⟩ (Nat.le_refl 1) s.size s (Nat.le_refl _)
    omega
theorem wholeV_form (l : List UInt8) : ∃ (a : Nat) (ok : Bool), wholeF l = (a, ok) ∧ wholeV l = .tuple #[.int .i64 (a : Nat), .bool ok] ∧ a ≤ 1000000000000000 := by
  have hb : (wholeF l).1 ≤ 1000000000000000 := by
    unfold wholeF
    split
    · exact Nat.zero_le _
    · rename_i h
      split
      · rename_i hd
        have := digVal_bd l hd
        have : 10 ^ l.length ≤ 10 ^ 15 := Nat.pow_le_pow_right (by omega) (by simp only [not_or] at h; omega)
        show digVal l ≤ _
        omega
      · exact Nat.zero_le _
  exact ⟨_, _, rfl, rfl, hb⟩
/-- a value of one number, or none -/
def optV (k : Int) (o : Option Int) : Value := match o with
  | some n => .tuple #[.agg #[.int .i64 k, .int .i64 n, .string ⟨#[]⟩, .slice none 0 0], .bool true]
  | none => .tuple #[.agg #[.int .i64 0, .int .i64 0, .string ⟨#[]⟩, .slice none 0 0], .bool false]
set_option maxHeartbeats 2000000 in
set_option maxRecDepth 100000 in
theorem readNumber_any (s : ByteArray) (w : World) (hs : s.size ≤ 2000000) (hm : Mx w) :
    Calls Tryz.prog 42 #[.string s] w fun e w' => e = .returned (optV 2 (readNumF s.data.toList)) ∧ Below w.heap.size w w' := by
  have HM := Lib.hid hm
  clear hm
  go_enter Tryz.func42, Tryz.ntmps42
  go_wp2_with fail
  obtain ⟨W, hW⟩ : ∃ W, W = (w.alloc (.cells #[.int .i64 0, .int .i64 0, .string ⟨#[]⟩, .slice none 0 0] 24 (0, 0))) := ⟨_, rfl⟩
  have hbw : Below w.heap.size w W := by rw [hW]; exact ((Below.refl _ w).alloc (Nat.le_refl _) _)
  have B0 : Blk W (w.heap.size) 24 #[.int .i64 0, .int .i64 0, .string ⟨#[]⟩, .slice none 0 0] := by
    rw [hW]
    have := Blk.new w 24 #[.int .i64 0, .int .i64 0, .string ⟨#[]⟩, .slice none 0 0]
    exact this
  have hsz : W.heap.size = w.heap.size + 1 := by rw [hW]; simp
  rw [← hW]
  clear hW hsz
  refine (trimPre s ⟨#[45]⟩ W).mono ?_
  rintro e w1 ⟨⟨d, rfl, hd⟩, rfl⟩
  have hdl : d.size ≤ s.size := by rw [dsize hd]; exact Lib.trimPrefix_le _ _
  have HD := Lib.hid hd
  clear hd
  go_wp2_with fail
  refine (cut_any d 46 W (by omega) (HM.out.below hbw)).mono ?_
  rintro e w1 ⟨⟨fr, pt, fd, rfl, hfr, hpt⟩, hb1⟩
  have hcl : pt.size ≤ d.size := by
    rw [dsize hpt]
    unfold Lib.cut
    split
    · simp only [List.length_drop]; show _ ≤ d.data.toList.length; omega
    · simp
  obtain ⟨L, hL⟩ : ∃ L, pt.size = L := ⟨_, rfl⟩
  have HFR := Lib.hid hfr
  have HPT := Lib.hid hpt
  have B0 := B0.below hb1 B0.lt
  have hbw := hbw.trans (hb1.mono hbw.size)
  have HL := Lib.hid hL
  have hL1 : L ≤ 2000000 := by omega
  clear hfr hpt hb1 hL hcl
  go_wp2_with (fail)
  go_loop [6] (fun v => ∃ (t : ByteArray) (k : Nat), v = .string t ∧ Hid (t.data.toList = pt.data.toList ++ zeros k) ∧ k ≤ 4 - L) (fun v => 4 - strLen v)
  case atStart => exact ⟨pt, 0, rfl, Lib.hid (by simp [zeros]), Nat.zero_le _⟩
  case round =>
    obtain ⟨t, k, rfl, HTT, hk⟩ := hrel
    have hsz : t.size = L + k := by
      have : t.data.toList.length = L + k := by rw [HTT.out, ← HL.out]; simp [zeros]
      exact this
    have hs1 : t.size ≤ L + k := by omega
    have hs2 : L + k ≤ t.size := by omega
    clear hsz
    by_cases hlt : t.size < 4
    · go_wp2_with (fail)
      go_round
      case rel =>
        refine ⟨t ++ ⟨#[48]⟩, k + 1, rfl, Lib.hid ?_, by omega⟩
        rw [toList_app, HTT.out, List.append_assoc]
        unfold zeros
        rw [List.replicate_succ']
      case measure =>
        have : (t ++ ⟨#[48]⟩ : ByteArray).size = t.size + 1 := by rw [ByteArray.size_append]; rfl
        simp [strLen, this]
        omega
    · have HP := Lib.hid (show t.data.toList = padR (Lib.cut d.data.toList [46]).2.1 4 by
        rw [HTT.out, HPT.out]
        unfold padR
        rw [← dsize HPT.out, HL.out, show k = 4 - L by omega])
      clear HTT
      obtain ⟨a, ok1, hw1, hv1, ha⟩ := wholeV_form fr.data.toList
      obtain ⟨b, ok2, hw2, hv2, hb⟩ := wholeV_form t.data.toList
      have HW1 := Lib.hid (hw1)
      have HW2 := Lib.hid (hw2)
      have HV1 := Lib.hid hv1
      have HV2 := Lib.hid hv2
      have HR := Lib.hid (show readNumF s.data.toList = if ok1 = true ∧ ok2 = true ∧ t.size ≤ 4 ∧ a ≤ 99999999999 then
          some (if d.size < s.size then -((a * 10000 + b : Nat) : Int) else ((a * 10000 + b : Nat) : Int)) else none by
        unfold readNumF
        simp only []
        rw [← show d.data.toList = Lib.trimPrefix s.data.toList [45] from HD.out, ← HP.out, ← HFR.out, hw1, hw2]
        rfl)
      clear hw1 hw2 hv1 hv2 HD HFR HPT HP HL hs1 hs2 hk
      go_wp2_with fail
      refine (whole_any fr w1).mono ?_
      rw [HV1.out]
      rintro e w2 ⟨rfl, rfl⟩
      go_wp2_with fail
      refine (whole_any t w1).mono ?_
      rw [HV2.out]
      rintro e w2 ⟨rfl, rfl⟩
      clear HV1 HV2 HW1 HW2
      have rc0 : w1.cell? ⟨w.heap.size, 0, none⟩ = some (.int .i64 0) := B0.cell 0
      have rz0 : w1.frozen? ⟨w.heap.size, 0, none⟩ = false := B0.frozen 0
      have rc1 : w1.cell? ⟨w.heap.size, 1, none⟩ = some (.int .i64 0) := B0.cell 1
      have rz1 : w1.frozen? ⟨w.heap.size, 1, none⟩ = false := B0.frozen 1
      have rc2 : w1.cell? ⟨w.heap.size, 2, none⟩ = some (.string ⟨#[]⟩) := B0.cell 2
      have rz2 : w1.frozen? ⟨w.heap.size, 2, none⟩ = false := B0.frozen 2
      have rc3 : w1.cell? ⟨w.heap.size, 3, none⟩ = some (.slice none 0 0) := B0.cell 3
      have rz3 : w1.frozen? ⟨w.heap.size, 3, none⟩ = false := B0.frozen 3
      by_cases hcond : ok1 = true ∧ ok2 = true ∧ t.size ≤ 4 ∧ a ≤ 99999999999
      · obtain ⟨rfl, rfl, h4, ha2⟩ := hcond
        by_cases hneg : d.size < s.size
        · have HE := Lib.hid (show optV 2 (readNumF s.data.toList) = .tuple #[.agg #[.int .i64 2, .int .i64 (-((a : Int) * 10000 + b)), .string ⟨#[]⟩, .slice none 0 0], .bool true] by
            rw [HR.out, if_pos ⟨rfl, rfl, h4, ha2⟩, if_pos hneg]
            show Value.tuple #[.agg #[.int .i64 2, .int .i64 (-((a * 10000 + b : Nat) : Int)), _, _], _] = _
            rw [show ((a * 10000 + b : Nat) : Int) = (a : Int) * 10000 + b by omega])
          go_wp2
          obtain ⟨W9, hW9⟩ : ∃ W9, W9 = (((w1.setCell ⟨w.heap.size, 0, none⟩ (.int .i64 2)).setCell ⟨w.heap.size, 1, none⟩ (.int .i64 (-((a : Int) * 10000 + b)))).setCell ⟨w.heap.size, 2, none⟩ (.string ⟨#[]⟩)).setCell ⟨w.heap.size, 3, none⟩ (.slice none 0 0) := ⟨_, rfl⟩
          have B9 : Blk W9 (w.heap.size) 24 #[.int .i64 2, .int .i64 (-((a : Int) * 10000 + b)), .string ⟨#[]⟩, .slice none 0 0] := hW9 ▸ ((((B0.set_ 0 _).set_ 1 _).set_ 2 _).set_ 3 _)
          have hbw9 : Below w.heap.size w W9 := hW9 ▸ ((((hbw.setCell (p := ⟨w.heap.size, 0, none⟩) (Nat.le_refl _) _).setCell (p := ⟨w.heap.size, 1, none⟩) (Nat.le_refl _) _).setCell (p := ⟨w.heap.size, 2, none⟩) (Nat.le_refl _) _).setCell (p := ⟨w.heap.size, 3, none⟩) (Nat.le_refl _) _)
          rw [← hW9]
          clear hW9
          have qc0 : W9.cell? ⟨w.heap.size, 0, none⟩ = some (.int .i64 2) := B9.cell 0
          have qc1 : W9.cell? ⟨w.heap.size, 1, none⟩ = some (.int .i64 (-((a : Int) * 10000 + b))) := B9.cell 1
          have qc2 : W9.cell? ⟨w.heap.size, 2, none⟩ = some (.string ⟨#[]⟩) := B9.cell 2
          have qc3 : W9.cell? ⟨w.heap.size, 3, none⟩ = some (.slice none 0 0) := B9.cell 3
          refine bodyPost_ret (v := .tuple #[.agg #[.int .i64 2, .int .i64 (-((a : Int) * 10000 + b)), .string ⟨#[]⟩, .slice none 0 0], .bool true]) (by simp [results, Tryz.results42, go_sem, qc0, qc1, qc2, qc3]) rfl ⟨ret_val HE.out.symm, hbw9⟩
        · have HE := Lib.hid (show optV 2 (readNumF s.data.toList) = .tuple #[.agg #[.int .i64 2, .int .i64 ((a : Int) * 10000 + b), .string ⟨#[]⟩, .slice none 0 0], .bool true] by
            rw [HR.out, if_pos ⟨rfl, rfl, h4, ha2⟩, if_neg hneg]
            show Value.tuple #[.agg #[.int .i64 2, .int .i64 ((a * 10000 + b : Nat) : Int), _, _], _] = _
            rw [show ((a * 10000 + b : Nat) : Int) = (a : Int) * 10000 + b by omega])
          go_wp2
          obtain ⟨W9, hW9⟩ : ∃ W9, W9 = (((w1.setCell ⟨w.heap.size, 0, none⟩ (.int .i64 2)).setCell ⟨w.heap.size, 1, none⟩ (.int .i64 ((a : Int) * 10000 + b))).setCell ⟨w.heap.size, 2, none⟩ (.string ⟨#[]⟩)).setCell ⟨w.heap.size, 3, none⟩ (.slice none 0 0) := ⟨_, rfl⟩
          have B9 : Blk W9 (w.heap.size) 24 #[.int .i64 2, .int .i64 ((a : Int) * 10000 + b), .string ⟨#[]⟩, .slice none 0 0] := hW9 ▸ ((((B0.set_ 0 _).set_ 1 _).set_ 2 _).set_ 3 _)
          have hbw9 : Below w.heap.size w W9 := hW9 ▸ ((((hbw.setCell (p := ⟨w.heap.size, 0, none⟩) (Nat.le_refl _) _).setCell (p := ⟨w.heap.size, 1, none⟩) (Nat.le_refl _) _).setCell (p := ⟨w.heap.size, 2, none⟩) (Nat.le_refl _) _).setCell (p := ⟨w.heap.size, 3, none⟩) (Nat.le_refl _) _)
          rw [← hW9]
          clear hW9
          have qc0 : W9.cell? ⟨w.heap.size, 0, none⟩ = some (.int .i64 2) := B9.cell 0
          have qc1 : W9.cell? ⟨w.heap.size, 1, none⟩ = some (.int .i64 ((a : Int) * 10000 + b)) := B9.cell 1
          have qc2 : W9.cell? ⟨w.heap.size, 2, none⟩ = some (.string ⟨#[]⟩) := B9.cell 2
          have qc3 : W9.cell? ⟨w.heap.size, 3, none⟩ = some (.slice none 0 0) := B9.cell 3
          refine bodyPost_ret (v := .tuple #[.agg #[.int .i64 2, .int .i64 ((a : Int) * 10000 + b), .string ⟨#[]⟩, .slice none 0 0], .bool true]) (by simp [results, Tryz.results42, go_sem, qc0, qc1, qc2, qc3]) rfl ⟨ret_val HE.out.symm, hbw9⟩
      · have HE := Lib.hid (show optV 2 (readNumF s.data.toList) = .tuple #[.agg #[.int .i64 0, .int .i64 0, .string ⟨#[]⟩, .slice none 0 0], .bool false] by rw [HR.out, if_neg hcond]; rfl)
        rcases ok1 with _ | _
        · clear hcond
          go_wp2
          obtain ⟨W9, hW9⟩ : ∃ W9, W9 = (((w1.setCell ⟨w.heap.size, 0, none⟩ (.int .i64 0)).setCell ⟨w.heap.size, 1, none⟩ (.int .i64 0)).setCell ⟨w.heap.size, 2, none⟩ (.string ⟨#[]⟩)).setCell ⟨w.heap.size, 3, none⟩ (.slice none 0 0) := ⟨_, rfl⟩
          have B9 : Blk W9 (w.heap.size) 24 #[.int .i64 0, .int .i64 0, .string ⟨#[]⟩, .slice none 0 0] := hW9 ▸ ((((B0.set_ 0 _).set_ 1 _).set_ 2 _).set_ 3 _)
          have hbw9 : Below w.heap.size w W9 := hW9 ▸ ((((hbw.setCell (p := ⟨w.heap.size, 0, none⟩) (Nat.le_refl _) _).setCell (p := ⟨w.heap.size, 1, none⟩) (Nat.le_refl _) _).setCell (p := ⟨w.heap.size, 2, none⟩) (Nat.le_refl _) _).setCell (p := ⟨w.heap.size, 3, none⟩) (Nat.le_refl _) _)
          rw [← hW9]
          clear hW9
          have qc0 : W9.cell? ⟨w.heap.size, 0, none⟩ = some (.int .i64 0) := B9.cell 0
          have qc1 : W9.cell? ⟨w.heap.size, 1, none⟩ = some (.int .i64 0) := B9.cell 1
          have qc2 : W9.cell? ⟨w.heap.size, 2, none⟩ = some (.string ⟨#[]⟩) := B9.cell 2
          have qc3 : W9.cell? ⟨w.heap.size, 3, none⟩ = some (.slice none 0 0) := B9.cell 3
          refine bodyPost_ret (v := .tuple #[.agg #[.int .i64 0, .int .i64 0, .string ⟨#[]⟩, .slice none 0 0], .bool false]) (by simp [results, Tryz.results42, go_sem, qc0, qc1, qc2, qc3]) rfl ⟨ret_val HE.out.symm, hbw9⟩
        rcases ok2 with _ | _
        · clear hcond
          go_wp2
          obtain ⟨W9, hW9⟩ : ∃ W9, W9 = (((w1.setCell ⟨w.heap.size, 0, none⟩ (.int .i64 0)).setCell ⟨w.heap.size, 1, none⟩ (.int .i64 0)).setCell ⟨w.heap.size, 2, none⟩ (.string ⟨#[]⟩)).setCell ⟨w.heap.size, 3, none⟩ (.slice none 0 0) := ⟨_, rfl⟩
          have B9 : Blk W9 (w.heap.size) 24 #[.int .i64 0, .int .i64 0, .string ⟨#[]⟩, .slice none 0 0] := hW9 ▸ ((((B0.set_ 0 _).set_ 1 _).set_ 2 _).set_ 3 _)
          have hbw9 : Below w.heap.size w W9 := hW9 ▸ ((((hbw.setCell (p := ⟨w.heap.size, 0, none⟩) (Nat.le_refl _) _).setCell (p := ⟨w.heap.size, 1, none⟩) (Nat.le_refl _) _).setCell (p := ⟨w.heap.size, 2, none⟩) (Nat.le_refl _) _).setCell (p := ⟨w.heap.size, 3, none⟩) (Nat.le_refl _) _)
          rw [← hW9]
          clear hW9
          have qc0 : W9.cell? ⟨w.heap.size, 0, none⟩ = some (.int .i64 0) := B9.cell 0
          have qc1 : W9.cell? ⟨w.heap.size, 1, none⟩ = some (.int .i64 0) := B9.cell 1
          have qc2 : W9.cell? ⟨w.heap.size, 2, none⟩ = some (.string ⟨#[]⟩) := B9.cell 2
          have qc3 : W9.cell? ⟨w.heap.size, 3, none⟩ = some (.slice none 0 0) := B9.cell 3
          refine bodyPost_ret (v := .tuple #[.agg #[.int .i64 0, .int .i64 0, .string ⟨#[]⟩, .slice none 0 0], .bool false]) (by simp [results, Tryz.results42, go_sem, qc0, qc1, qc2, qc3]) rfl ⟨ret_val HE.out.symm, hbw9⟩
        by_cases h4 : t.size ≤ 4
        · have ha2 : 99999999999 < a := by
            rcases Nat.lt_or_ge 99999999999 a with h | h
            · exact h
            · exact absurd ⟨rfl, rfl, h4, h⟩ hcond
          clear hcond
          go_wp2
          obtain ⟨W9, hW9⟩ : ∃ W9, W9 = (((w1.setCell ⟨w.heap.size, 0, none⟩ (.int .i64 0)).setCell ⟨w.heap.size, 1, none⟩ (.int .i64 0)).setCell ⟨w.heap.size, 2, none⟩ (.string ⟨#[]⟩)).setCell ⟨w.heap.size, 3, none⟩ (.slice none 0 0) := ⟨_, rfl⟩
          have B9 : Blk W9 (w.heap.size) 24 #[.int .i64 0, .int .i64 0, .string ⟨#[]⟩, .slice none 0 0] := hW9 ▸ ((((B0.set_ 0 _).set_ 1 _).set_ 2 _).set_ 3 _)
          have hbw9 : Below w.heap.size w W9 := hW9 ▸ ((((hbw.setCell (p := ⟨w.heap.size, 0, none⟩) (Nat.le_refl _) _).setCell (p := ⟨w.heap.size, 1, none⟩) (Nat.le_refl _) _).setCell (p := ⟨w.heap.size, 2, none⟩) (Nat.le_refl _) _).setCell (p := ⟨w.heap.size, 3, none⟩) (Nat.le_refl _) _)
          rw [← hW9]
          clear hW9
          have qc0 : W9.cell? ⟨w.heap.size, 0, none⟩ = some (.int .i64 0) := B9.cell 0
          have qc1 : W9.cell? ⟨w.heap.size, 1, none⟩ = some (.int .i64 0) := B9.cell 1
          have qc2 : W9.cell? ⟨w.heap.size, 2, none⟩ = some (.string ⟨#[]⟩) := B9.cell 2
          have qc3 : W9.cell? ⟨w.heap.size, 3, none⟩ = some (.slice none 0 0) := B9.cell 3
          refine bodyPost_ret (v := .tuple #[.agg #[.int .i64 0, .int .i64 0, .string ⟨#[]⟩, .slice none 0 0], .bool false]) (by simp [results, Tryz.results42, go_sem, qc0, qc1, qc2, qc3]) rfl ⟨ret_val HE.out.symm, hbw9⟩
        · clear hcond
          go_wp2
          obtain ⟨W9, hW9⟩ : ∃ W9, W9 = (((w1.setCell ⟨w.heap.size, 0, none⟩ (.int .i64 0)).setCell ⟨w.heap.size, 1, none⟩ (.int .i64 0)).setCell ⟨w.heap.size, 2, none⟩ (.string ⟨#[]⟩)).setCell ⟨w.heap.size, 3, none⟩ (.slice none 0 0) := ⟨_, rfl⟩
          have B9 : Blk W9 (w.heap.size) 24 #[.int .i64 0, .int .i64 0, .string ⟨#[]⟩, .slice none 0 0] := hW9 ▸ ((((B0.set_ 0 _).set_ 1 _).set_ 2 _).set_ 3 _)
          have hbw9 : Below w.heap.size w W9 := hW9 ▸ ((((hbw.setCell (p := ⟨w.heap.size, 0, none⟩) (Nat.le_refl _) _).setCell (p := ⟨w.heap.size, 1, none⟩) (Nat.le_refl _) _).setCell (p := ⟨w.heap.size, 2, none⟩) (Nat.le_refl _) _).setCell (p := ⟨w.heap.size, 3, none⟩) (Nat.le_refl _) _)
          rw [← hW9]
          clear hW9
          have qc0 : W9.cell? ⟨w.heap.size, 0, none⟩ = some (.int .i64 0) := B9.cell 0
          have qc1 : W9.cell? ⟨w.heap.size, 1, none⟩ = some (.int .i64 0) := B9.cell 1
          have qc2 : W9.cell? ⟨w.heap.size, 2, none⟩ = some (.string ⟨#[]⟩) := B9.cell 2
          have qc3 : W9.cell? ⟨w.heap.size, 3, none⟩ = some (.slice none 0 0) := B9.cell 3
          refine bodyPost_ret (v := .tuple #[.agg #[.int .i64 0, .int .i64 0, .string ⟨#[]⟩, .slice none 0 0], .bool false]) (by simp [results, Tryz.results42, go_sem, qc0, qc1, qc2, qc3]) rfl ⟨ret_val HE.out.symm, hbw9⟩
end Go.Proofs.YthnknmkekbledaaGreatDoor
