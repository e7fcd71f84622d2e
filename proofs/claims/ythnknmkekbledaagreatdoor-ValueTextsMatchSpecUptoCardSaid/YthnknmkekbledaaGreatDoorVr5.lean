/- The walks of the reference's Read and of the law: Show and Read are as specified. -/
import Derived.Test.YthnknmkekbledaaGreatDoorVr4
import Derived.Test.YthnknmkekbledaaGreatDoorSame
namespace Go.Proofs.YthnknmkekbledaaGreatDoor
open Go.RowKit Dig Vtx

theorem cand_show' {v : Val} (hv : checkV v = 0) : candF (showT v.k v.n v.s.data.toList v.l) = ⟨v.k, v.n, v.s.data.toList, v.l⟩ := cand_show (snd_of hv).1
theorem one_cand {s : List UInt8} {x : Val} (h : candF s = ⟨x.k, x.n, x.s.data.toList, x.l⟩) (hx : checkV x ≠ 0 ∨ showT x.k x.n x.s.data.toList x.l ≠ s) : ∀ v : Val, checkV v = 0 → showT v.k v.n v.s.data.toList v.l ≠ s := fun v hv e => by
  have := cand_show' hv
  rw [e, h] at this
  have := val_ext this
  subst this
  rcases hx with hx | hx
  · exact hx hv
  · exact hx e
set_option maxHeartbeats 4000000 in
set_option maxRecDepth 100000 in
theorem rRead_any (s : ByteArray) (w : World) (hs : s.size ≤ 2000000) (htab : Tab w) (hm : Mx w) (he : Er w) :
    Calls Tryz.prog 7 #[.string s] w fun e w' => RV e w' w.heap.size s.data.toList ∧ Below w.heap.size w w' := by
  have HT := Lib.hid htab
  have HM := Lib.hid hm
  have HE := Lib.hid he
  clear htab hm he
  go_enter Tryz.func7, Tryz.ntmps7
  go_wp2_with fail
  obtain ⟨W, hW⟩ : ∃ W, W = (w.alloc (.cells #[.int .i64 0, .int .i64 0, .string ⟨#[]⟩, .slice none 0 0] 24 (0, 0))) := ⟨_, rfl⟩
  have hbw : Below w.heap.size w W := by rw [hW]; exact ((Below.refl _ w).alloc (Nat.le_refl _) _)
  have B0 : Blk W (w.heap.size) 24 #[.int .i64 0, .int .i64 0, .string ⟨#[]⟩, .slice none 0 0] := by
    rw [hW]
    have := Blk.new w 24 #[.int .i64 0, .int .i64 0, .string ⟨#[]⟩, .slice none 0 0]
    exact this
  have hsz : W.heap.size = w.heap.size + 1 := by rw [hW]; simp
  rw [← hW]
  clear hW hsz
  refine (cand_any s W hs (HM.out.below hbw) (HE.out.below hbw)).mono ?_
  rintro e w1 ⟨hg, hb1⟩
  obtain ⟨x, A, c, rfl, hrd, hA, hl, hs1, q1⟩ := hg.ex
  have hA2 : ∀ ad, A = some ad → w.heap.size < ad.block := fun ad h => Nat.lt_of_lt_of_le B0.lt (hA ad h)
  have HRD := Lib.hid (And.intro hrd hA2)
  have HQ := Lib.hid q1
  have B0 := B0.below hb1 B0.lt
  have hbw := hbw.trans (hb1.mono hbw.size)
  clear hg hb1 hrd hA q1 hA2
  go_upto_region 2 with (fail)
  obtain ⟨W2, hW2⟩ : ∃ W2, W2 = w1.alloc (.cells #[.int .i64 x.k, .int .i64 x.n, .string x.s, .slice A x.l.length c] 24 (0, 0)) := ⟨_, rfl⟩
  have hb2 : Below w1.heap.size w1 W2 := hW2 ▸ (Below.refl _ w1).alloc (Nat.le_refl _) _
  have B3 : Blk W2 w1.heap.size 24 #[.int .i64 x.k, .int .i64 x.n, .string x.s, .slice A x.l.length c] := hW2 ▸ Blk.new w1 _ _
  rw [← hW2]
  have hlt := B0.lt
  have B0 := B0.below hb2 B0.lt
  have hrd2 := HRD.out.1.below hb2
  have hsz2 : w1.heap.size ≤ W2.heap.size := hb2.size
  have hbw := hbw.trans (hb2.mono hbw.size)
  have HRD := Lib.hid (And.intro (hrd2.more hsz2) HRD.out.2)
  clear hW2 hb2 hrd2
  have rc0 : W2.cell? ⟨w.heap.size, 0, none⟩ = some (.int .i64 0) := B0.cell 0
  have rz0 : W2.frozen? ⟨w.heap.size, 0, none⟩ = false := B0.frozen 0
  have rc1 : W2.cell? ⟨w.heap.size, 1, none⟩ = some (.int .i64 0) := B0.cell 1
  have rz1 : W2.frozen? ⟨w.heap.size, 1, none⟩ = false := B0.frozen 1
  have rc2 : W2.cell? ⟨w.heap.size, 2, none⟩ = some (.string ⟨#[]⟩) := B0.cell 2
  have rz2 : W2.frozen? ⟨w.heap.size, 2, none⟩ = false := B0.frozen 2
  have rc3 : W2.cell? ⟨w.heap.size, 3, none⟩ = some (.slice none 0 0) := B0.cell 3
  have rz3 : W2.frozen? ⟨w.heap.size, 3, none⟩ = false := B0.frozen 3
  have vc0 : W2.cell? ⟨w1.heap.size, 0, none⟩ = some (.int .i64 x.k) := B3.cell 0
  have vc1 : W2.cell? ⟨w1.heap.size, 1, none⟩ = some (.int .i64 x.n) := B3.cell 1
  have vc2 : W2.cell? ⟨w1.heap.size, 2, none⟩ = some (.string x.s) := B3.cell 2
  have vc3 : W2.cell? ⟨w1.heap.size, 3, none⟩ = some (.slice A x.l.length c) := B3.cell 3
  go_wp2_with fail
  refine (rShow_any x A c W2 (by unfold maxLen; omega) (by unfold maxLen; omega) HRD.out.1 (HT.out.below hbw) (HM.out.below hbw)).mono ?_
  rintro e w4 ⟨⟨t, rfl, ht⟩, hb4⟩
  obtain ⟨f, hf⟩ : ∃ f, checkV x = f := ⟨_, rfl⟩
  have HF := Lib.hid hf
  rw [hf]
  rw [hf] at ht
  have HTT := Lib.hid ht
  have B0 := B0.below hb4 B0.lt
  have B3 := B3.below hb4 B3.lt
  have HRD2 := Lib.hid (And.intro ((HRD.out.1.below hb4).more hb4.size) HRD.out.2)
  have hbw := hbw.trans (hb4.mono hbw.size)
  clear hf ht hb4 rc0 rz0 rc1 rz1 rc2 rz2 rc3 rz3 vc0 vc1 vc2 vc3
  have rc0 : w4.cell? ⟨w.heap.size, 0, none⟩ = some (.int .i64 0) := B0.cell 0
  have rz0 : w4.frozen? ⟨w.heap.size, 0, none⟩ = false := B0.frozen 0
  have rc1 : w4.cell? ⟨w.heap.size, 1, none⟩ = some (.int .i64 0) := B0.cell 1
  have rz1 : w4.frozen? ⟨w.heap.size, 1, none⟩ = false := B0.frozen 1
  have rc2 : w4.cell? ⟨w.heap.size, 2, none⟩ = some (.string ⟨#[]⟩) := B0.cell 2
  have rz2 : w4.frozen? ⟨w.heap.size, 2, none⟩ = false := B0.frozen 2
  have rc3 : w4.cell? ⟨w.heap.size, 3, none⟩ = some (.slice none 0 0) := B0.cell 3
  have rz3 : w4.frozen? ⟨w.heap.size, 3, none⟩ = false := B0.frozen 3
  have vc0 : w4.cell? ⟨w1.heap.size, 0, none⟩ = some (.int .i64 x.k) := B3.cell 0
  have vc1 : w4.cell? ⟨w1.heap.size, 1, none⟩ = some (.int .i64 x.n) := B3.cell 1
  have vc2 : w4.cell? ⟨w1.heap.size, 2, none⟩ = some (.string x.s) := B3.cell 2
  have vc3 : w4.cell? ⟨w1.heap.size, 3, none⟩ = some (.slice A x.l.length c) := B3.cell 3
  by_cases h0 : f = 0
  rotate_left
  · have hne : (f != 0) = true := by simpa using h0
    have HN := Lib.hid (one_cand HQ.out (.inl (by rw [HF.out]; exact h0)))
    clear h0
    go_wp2
    obtain ⟨W9, hW9⟩ : ∃ W9, W9 = (((w4.setCell ⟨w.heap.size, 0, none⟩ (.int .i64 0)).setCell ⟨w.heap.size, 1, none⟩ (.int .i64 0)).setCell ⟨w.heap.size, 2, none⟩ (.string ⟨#[]⟩)).setCell ⟨w.heap.size, 3, none⟩ (.slice none 0 0) := ⟨_, rfl⟩
    have B9 : Blk W9 (w.heap.size) 24 #[.int .i64 0, .int .i64 0, .string ⟨#[]⟩, .slice none 0 0] := hW9 ▸ ((((B0.set_ 0 _).set_ 1 _).set_ 2 _).set_ 3 _)
    have hbw9 : Below w.heap.size w W9 := hW9 ▸ ((((hbw.setCell (p := ⟨w.heap.size, 0, none⟩) (Nat.le_refl _) _).setCell (p := ⟨w.heap.size, 1, none⟩) (Nat.le_refl _) _).setCell (p := ⟨w.heap.size, 2, none⟩) (Nat.le_refl _) _).setCell (p := ⟨w.heap.size, 3, none⟩) (Nat.le_refl _) _)
    rw [← hW9]
    clear hW9
    have qc0 : W9.cell? ⟨w.heap.size, 0, none⟩ = some (.int .i64 0) := B9.cell 0
    have qc1 : W9.cell? ⟨w.heap.size, 1, none⟩ = some (.int .i64 0) := B9.cell 1
    have qc2 : W9.cell? ⟨w.heap.size, 2, none⟩ = some (.string ⟨#[]⟩) := B9.cell 2
    have qc3 : W9.cell? ⟨w.heap.size, 3, none⟩ = some (.slice none 0 0) := B9.cell 3
    refine bodyPost_ret (v := .tuple #[.agg #[.int .i64 0, .int .i64 0, .string ⟨#[]⟩, .slice none 0 0], .int .i64 10]) (by simp [results, Tryz.results7, go_sem, qc0, qc1, qc2, qc3]) rfl ⟨⟨⟨⟨0, 0, ⟨#[]⟩, []⟩, none, 0, 10, rfl, Reads.none_, (fun _ h => by cases h), by simp, by decide, (fun h => absurd h (by decide)), (fun _ => ⟨rfl, rfl, HN.out⟩)⟩⟩, hbw9⟩
  subst h0
  by_cases he : t = s
  · have b0 : (t.toList == s.toList) = true := strEq_true he
    have HE := Lib.hid (show showT x.k x.n x.s.data.toList x.l = s.data.toList by rw [← HTT.out rfl, he])
    clear he
    go_wp2
    obtain ⟨W9, hW9⟩ : ∃ W9, W9 = (((w4.setCell ⟨w.heap.size, 0, none⟩ (.int .i64 x.k)).setCell ⟨w.heap.size, 1, none⟩ (.int .i64 x.n)).setCell ⟨w.heap.size, 2, none⟩ (.string x.s)).setCell ⟨w.heap.size, 3, none⟩ (.slice A x.l.length c) := ⟨_, rfl⟩
    have B9 : Blk W9 (w.heap.size) 24 #[.int .i64 x.k, .int .i64 x.n, .string x.s, .slice A x.l.length c] := hW9 ▸ ((((B0.set_ 0 _).set_ 1 _).set_ 2 _).set_ 3 _)
    have hbw9 : Below w.heap.size w W9 := hW9 ▸ ((((hbw.setCell (p := ⟨w.heap.size, 0, none⟩) (Nat.le_refl _) _).setCell (p := ⟨w.heap.size, 1, none⟩) (Nat.le_refl _) _).setCell (p := ⟨w.heap.size, 2, none⟩) (Nat.le_refl _) _).setCell (p := ⟨w.heap.size, 3, none⟩) (Nat.le_refl _) _)
    have HR9 := Lib.hid (hW9 ▸ (((HRD2.out.1.apart HRD2.out.2 _).apart HRD2.out.2 _).apart HRD2.out.2 _).apart HRD2.out.2 _ : Reads W9 w4.heap.size 1 A x.l.length (numV .i64 x.l))
    have hs9 : w4.heap.size ≤ W9.heap.size := by rw [hW9]; simp [World.setCell]
    rw [← hW9]
    clear hW9
    have qc0 : W9.cell? ⟨w.heap.size, 0, none⟩ = some (.int .i64 x.k) := B9.cell 0
    have qc1 : W9.cell? ⟨w.heap.size, 1, none⟩ = some (.int .i64 x.n) := B9.cell 1
    have qc2 : W9.cell? ⟨w.heap.size, 2, none⟩ = some (.string x.s) := B9.cell 2
    have qc3 : W9.cell? ⟨w.heap.size, 3, none⟩ = some (.slice A x.l.length c) := B9.cell 3
    refine bodyPost_ret (v := .tuple #[.agg #[.int .i64 x.k, .int .i64 x.n, .string x.s, .slice A x.l.length c], .int .i64 0]) (by simp [results, Tryz.results7, go_sem, qc0, qc1, qc2, qc3]) rfl ⟨⟨⟨x, A, c, 0, rfl, HR9.out.more hs9, (fun ad h => Nat.le_of_lt (HRD2.out.2 ad h)), hl, hs1, (fun _ => ⟨HF.out, HE.out⟩), (fun h => absurd rfl h)⟩⟩, hbw9⟩
  · have b0 : (t.toList == s.toList) = false := strEq_false he
    have HN := Lib.hid (one_cand HQ.out (.inr (fun e => he ((ba_of ((HTT.out rfl).trans e)).trans (ba_of (t := s) rfl).symm))))
    clear he
    go_wp2
    obtain ⟨W9, hW9⟩ : ∃ W9, W9 = (((w4.setCell ⟨w.heap.size, 0, none⟩ (.int .i64 0)).setCell ⟨w.heap.size, 1, none⟩ (.int .i64 0)).setCell ⟨w.heap.size, 2, none⟩ (.string ⟨#[]⟩)).setCell ⟨w.heap.size, 3, none⟩ (.slice none 0 0) := ⟨_, rfl⟩
    have B9 : Blk W9 (w.heap.size) 24 #[.int .i64 0, .int .i64 0, .string ⟨#[]⟩, .slice none 0 0] := hW9 ▸ ((((B0.set_ 0 _).set_ 1 _).set_ 2 _).set_ 3 _)
    have hbw9 : Below w.heap.size w W9 := hW9 ▸ ((((hbw.setCell (p := ⟨w.heap.size, 0, none⟩) (Nat.le_refl _) _).setCell (p := ⟨w.heap.size, 1, none⟩) (Nat.le_refl _) _).setCell (p := ⟨w.heap.size, 2, none⟩) (Nat.le_refl _) _).setCell (p := ⟨w.heap.size, 3, none⟩) (Nat.le_refl _) _)
    rw [← hW9]
    clear hW9
    have qc0 : W9.cell? ⟨w.heap.size, 0, none⟩ = some (.int .i64 0) := B9.cell 0
    have qc1 : W9.cell? ⟨w.heap.size, 1, none⟩ = some (.int .i64 0) := B9.cell 1
    have qc2 : W9.cell? ⟨w.heap.size, 2, none⟩ = some (.string ⟨#[]⟩) := B9.cell 2
    have qc3 : W9.cell? ⟨w.heap.size, 3, none⟩ = some (.slice none 0 0) := B9.cell 3
    refine bodyPost_ret (v := .tuple #[.agg #[.int .i64 0, .int .i64 0, .string ⟨#[]⟩, .slice none 0 0], .int .i64 10]) (by simp [results, Tryz.results7, go_sem, qc0, qc1, qc2, qc3]) rfl ⟨⟨⟨⟨0, 0, ⟨#[]⟩, []⟩, none, 0, 10, rfl, Reads.none_, (fun _ h => by cases h), by simp, by decide, (fun h => absurd h (by decide)), (fun _ => ⟨rfl, rfl, HN.out⟩)⟩⟩, hbw9⟩

/-! the faults of Show -/
set_option maxHeartbeats 1000000 in
set_option maxRecDepth 100000 in
theorem Show_fail (x : Val) (A : Option Addr) (c : Nat) (w : World) (h0 : checkV x ≠ 0) (hl : x.l.length ≤ maxLen) (hs : x.s.size ≤ maxLen) (hx : Reads w w.heap.size 1 A x.l.length (numV .i64 x.l)) :
    Calls Tryz.prog 4 #[.agg #[.int .i64 x.k, .int .i64 x.n, .string x.s, .slice A x.l.length c]] w fun e w' => e = .returned (.tuple #[.string ⟨#[]⟩, .int .i64 (checkV x)]) ∧ Below w.heap.size w w' := by
  have HX := Lib.hid hx
  obtain ⟨f, hf⟩ : ∃ f, checkV x = f := ⟨_, rfl⟩
  have hne : (f != 0) = true := by rw [← hf]; simpa using h0
  have HF := Lib.hid hf
  clear hx h0 hf
  go_enter Tryz.func4, Tryz.ntmps4
  go_wp2_with fail
  obtain ⟨W, hW⟩ : ∃ W, W = (w.alloc (.cells #[.int .i64 x.k, .int .i64 x.n, .string x.s, .slice A x.l.length c] 24 (0, 0))) := ⟨_, rfl⟩
  have hbw : Below w.heap.size w W := by rw [hW]; exact ((Below.refl _ w).alloc (Nat.le_refl _) _)
  have B0 : Blk W (w.heap.size) 24 #[.int .i64 x.k, .int .i64 x.n, .string x.s, .slice A x.l.length c] := by
    rw [hW]
    have := Blk.new w 24 #[.int .i64 x.k, .int .i64 x.n, .string x.s, .slice A x.l.length c]
    exact this
  have hsz : W.heap.size = w.heap.size + 1 := by rw [hW]; simp
  rw [← hW]
  clear hW hsz B0
  refine (check_any x A c w.heap.size W hl hs (HX.out.below hbw) hbw.size).mono ?_
  rintro e w1 ⟨rfl, hb1⟩
  have hbw := hbw.trans (hb1.mono hbw.size)
  rw [HF.out]
  clear hb1
  go_wp2
  go_ret2
  exact ⟨ret_val (by rw [HF.out]; rfl), hbw⟩
set_option maxHeartbeats 1000000 in
set_option maxRecDepth 100000 in
theorem rShow_fail (x : Val) (A : Option Addr) (c : Nat) (w : World) (h0 : checkV x ≠ 0) (hl : x.l.length ≤ maxLen) (hs : x.s.size ≤ maxLen) (hx : Reads w w.heap.size 1 A x.l.length (numV .i64 x.l)) :
    Calls Tryz.prog 5 #[.agg #[.int .i64 x.k, .int .i64 x.n, .string x.s, .slice A x.l.length c]] w fun e w' => e = .returned (.tuple #[.string ⟨#[]⟩, .int .i64 (checkV x)]) ∧ Below w.heap.size w w' := by
  have HX := Lib.hid hx
  obtain ⟨f, hf⟩ : ∃ f, checkV x = f := ⟨_, rfl⟩
  have hne : (f != 0) = true := by rw [← hf]; simpa using h0
  have HF := Lib.hid hf
  clear hx h0 hf
  go_enter Tryz.func5, Tryz.ntmps5
  go_wp2_with fail
  obtain ⟨W, hW⟩ : ∃ W, W = (w.alloc (.cells #[.int .i64 x.k, .int .i64 x.n, .string x.s, .slice A x.l.length c] 24 (0, 0))) := ⟨_, rfl⟩
  have hbw : Below w.heap.size w W := by rw [hW]; exact ((Below.refl _ w).alloc (Nat.le_refl _) _)
  have B0 : Blk W (w.heap.size) 24 #[.int .i64 x.k, .int .i64 x.n, .string x.s, .slice A x.l.length c] := by
    rw [hW]
    have := Blk.new w 24 #[.int .i64 x.k, .int .i64 x.n, .string x.s, .slice A x.l.length c]
    exact this
  have hsz : W.heap.size = w.heap.size + 1 := by rw [hW]; simp
  rw [← hW]
  clear hW hsz B0
  refine (rcheck_any x A c w.heap.size W hl hs (HX.out.below hbw) hbw.size).mono ?_
  rintro e w1 ⟨rfl, hb1⟩
  have hbw := hbw.trans (hb1.mono hbw.size)
  rw [HF.out]
  clear hb1
  go_wp2
  go_ret2
  exact ⟨ret_val (by rw [HF.out]; rfl), hbw⟩
theorem back_two {x y : Val} (hx : checkV x = 0) (hy : checkV y = 0) (h : showT y.k y.n y.s.data.toList y.l = showT x.k x.n x.s.data.toList x.l) : x = y := by
  have g1 := cand_show' hx
  have g2 := cand_show' hy
  rw [h, g1] at g2
  exact val_ext g2
theorem same_self' (x : Val) : sameV x x = true := by simp [sameV]
set_option maxHeartbeats 4000000 in
set_option maxRecDepth 100000 in
theorem texts_any (x : Val) (A : Option Addr) (c : Nat) (s : ByteArray) (w : World) (hl : x.l.length ≤ maxLen) (hs : x.s.size ≤ maxLen) (hx : Reads w w.heap.size 1 A x.l.length (numV .i64 x.l)) (hz : s.size ≤ 2000000) (htab : Tab w) (hm : Mx w) (he : Er w) :
    Calls Tryz.prog 3 #[.agg #[.int .i64 x.k, .int .i64 x.n, .string x.s, .slice A x.l.length c], .string s] w fun e w' => e = .returned (.bool true) ∧ Below w.heap.size w w' := by
  have HT := Lib.hid htab
  have HM := Lib.hid hm
  have HE := Lib.hid he
  have HX := Lib.hid hx
  clear htab hm hx he
  go_enter Tryz.func3, Tryz.ntmps3
  go_wp2_with fail
  obtain ⟨W, hW⟩ : ∃ W, W = (w.alloc (.cells #[.int .i64 x.k, .int .i64 x.n, .string x.s, .slice A x.l.length c] 24 (0, 0))) := ⟨_, rfl⟩
  have hbw : Below w.heap.size w W := by rw [hW]; exact ((Below.refl _ w).alloc (Nat.le_refl _) _)
  have B0 : Blk W (w.heap.size) 24 #[.int .i64 x.k, .int .i64 x.n, .string x.s, .slice A x.l.length c] := by
    rw [hW]
    have := Blk.new w 24 #[.int .i64 x.k, .int .i64 x.n, .string x.s, .slice A x.l.length c]
    exact this
  have hsz : W.heap.size = w.heap.size + 1 := by rw [hW]; simp
  rw [← hW]
  clear hW hsz
  have HXW := Lib.hid ((HX.out.below hbw).more hbw.size)
  obtain ⟨f, hf⟩ : ∃ f, checkV x = f := ⟨_, rfl⟩
  have HF := Lib.hid hf
  have hS : ∃ t : ByteArray, (Calls Tryz.prog 4 #[.agg #[.int .i64 x.k, .int .i64 x.n, .string x.s, .slice A x.l.length c]] W fun e w2 => e = .returned (.tuple #[.string t, .int .i64 f]) ∧ Below W.heap.size W w2) ∧
      ∀ w', Reads w' w'.heap.size 1 A x.l.length (numV .i64 x.l) → Tab w' → Mx w' → (Calls Tryz.prog 5 #[.agg #[.int .i64 x.k, .int .i64 x.n, .string x.s, .slice A x.l.length c]] w' fun e w2 => e = .returned (.tuple #[.string t, .int .i64 f]) ∧ Below w'.heap.size w' w2) := by
    rw [← hf]
    by_cases h0 : checkV x = 0
    · refine ⟨⟨(showT x.k x.n x.s.data.toList x.l).toArray⟩, ?_, fun w' hx' t' m' => ?_⟩
      · refine (Show_any x A c W hl hs HXW.out (HT.out.below hbw) (HM.out.below hbw)).mono ?_
        rintro e w2 ⟨⟨t, he, ht⟩, hb⟩
        rw [he, ba_of (ht h0)]
        exact ⟨rfl, hb⟩
      · refine (rShow_any x A c w' hl hs hx' t' m').mono ?_
        rintro e w2 ⟨⟨t, he, ht⟩, hb⟩
        rw [he, ba_of (ht h0)]
        exact ⟨rfl, hb⟩
    · exact ⟨⟨#[]⟩, Show_fail x A c W h0 hl hs HXW.out, fun w' hx' _ _ => rShow_fail x A c w' h0 hl hs hx'⟩
  clear hf
  obtain ⟨t, hS1, hS2⟩ := hS
  have HS2 := Lib.hid hS2
  clear hS2
  refine hS1.mono ?_
  clear hS1
  rintro e w1 ⟨rfl, hb1⟩
  have B0 := B0.below hb1 B0.lt
  have HX1 := Lib.hid ((HXW.out.below hb1).more hb1.size)
  have hbw := hbw.trans (hb1.mono hbw.size)
  clear hb1 HXW
  have vc0 : w1.cell? ⟨w.heap.size, 0, none⟩ = some (.int .i64 x.k) := B0.cell 0
  have vc1 : w1.cell? ⟨w.heap.size, 1, none⟩ = some (.int .i64 x.n) := B0.cell 1
  have vc2 : w1.cell? ⟨w.heap.size, 2, none⟩ = some (.string x.s) := B0.cell 2
  have vc3 : w1.cell? ⟨w.heap.size, 3, none⟩ = some (.slice A x.l.length c) := B0.cell 3
  go_wp2_with fail
  refine (HS2.out w1 HX1.out (HT.out.below hbw) (HM.out.below hbw)).mono ?_
  rintro e w2 ⟨rfl, hb2⟩
  have hbw := hbw.trans (hb2.mono hbw.size)
  clear hb2 HS2 HX1 B0 vc0 vc1 vc2 vc3
  go_wp2_with fail
  refine (Read_any s w2 hz (HT.out.below hbw) (HM.out.below hbw)).mono ?_
  rintro e w3 ⟨hg, hb3⟩
  obtain ⟨y, A3, c3, f3, rfl, hrd3, hA3, hl3, hs3, p1, p2⟩ := hg.ex
  have HP := Lib.hid (And.intro p1 p2)
  have hbw := hbw.trans (hb3.mono hbw.size)
  have HRD3 := Lib.hid hrd3
  clear hg hb3 hrd3 hA3 p1 p2
  go_upto_region 4 with (fail)
  obtain ⟨W4, hW4⟩ : ∃ W4, W4 = w3.alloc (.cells #[.int .i64 y.k, .int .i64 y.n, .string y.s, .slice A3 y.l.length c3] 24 (0, 0)) := ⟨_, rfl⟩
  have hb4 : Below w3.heap.size w3 W4 := hW4 ▸ (Below.refl _ w3).alloc (Nat.le_refl _) _
  have B4 : Blk W4 w3.heap.size 24 #[.int .i64 y.k, .int .i64 y.n, .string y.s, .slice A3 y.l.length c3] := hW4 ▸ Blk.new w3 _ _
  rw [← hW4]
  have hbw := hbw.trans (hb4.mono hbw.size)
  have HRD4 := Lib.hid ((HRD3.out.below hb4).more hb4.size)
  clear hW4 hb4 HRD3
  go_wp2_with fail
  refine (rRead_any s W4 hz (HT.out.below hbw) (HM.out.below hbw) (HE.out.below hbw)).mono ?_
  rintro e w5 ⟨hg, hb5⟩
  obtain ⟨z, A5, c5, f5, rfl, hrd5, hA5, hl5, hs5, q1, q2⟩ := hg.ex
  obtain ⟨rfl, rfl⟩ : f3 = f5 ∧ y = z := by
    by_cases e3 : f3 = 0
    · obtain ⟨a1, a2⟩ := HP.out.1 e3
      by_cases e5 : f5 = 0
      · obtain ⟨b1, b2⟩ := q1 e5
        exact ⟨by rw [e3, e5], back_two a1 b1 (b2.trans a2.symm)⟩
      · exact absurd a2 ((q2 e5).2.2 y a1)
    · obtain ⟨a1, a2, a3⟩ := HP.out.2 e3
      by_cases e5 : f5 = 0
      · obtain ⟨b1, b2⟩ := q1 e5
        exact absurd b2 (a3 z b1)
      · obtain ⟨b1, b2, -⟩ := q2 e5
        exact ⟨by rw [a1, b1], by rw [a2, b2]⟩
  have B4 := B4.below hb5 B4.lt
  have HRD5 := Lib.hid ((HRD4.out.below hb5).more hb5.size)
  have HQ5 := Lib.hid hrd5
  have hbw := hbw.trans (hb5.mono hbw.size)
  clear hg hb5 hrd5 hA5 q1 q2 HP HRD4 hl5 hs5
  go_upto_region 5 with (fail)
  obtain ⟨W6, hW6⟩ : ∃ W6, W6 = w5.alloc (.cells #[.int .i64 y.k, .int .i64 y.n, .string y.s, .slice A5 y.l.length c5] 24 (0, 0)) := ⟨_, rfl⟩
  have hb6 : Below w5.heap.size w5 W6 := hW6 ▸ (Below.refl _ w5).alloc (Nat.le_refl _) _
  have B6 : Blk W6 w5.heap.size 24 #[.int .i64 y.k, .int .i64 y.n, .string y.s, .slice A5 y.l.length c5] := hW6 ▸ Blk.new w5 _ _
  rw [← hW6]
  have B4 := B4.below hb6 B4.lt
  have hbw := hbw.trans (hb6.mono hbw.size)
  have HRD6 := Lib.hid ((HRD5.out.below hb6).more hb6.size)
  have HQ6 := Lib.hid ((HQ5.out.below hb6).more hb6.size)
  clear hW6 hb6 HRD5 HQ5
  have k1 : ∀ w' : World, Below W6.heap.size W6 w' → Calls Tryz.prog 8 #[.agg #[.int .i64 y.k, .int .i64 y.n, .string y.s, .slice A3 y.l.length c3], .agg #[.int .i64 y.k, .int .i64 y.n, .string y.s, .slice A5 y.l.length c5]] w' fun e w'' => e = .returned (.bool true) ∧ Below w'.heap.size w' w'' := fun w' hb => by
    have h := same_any y y A3 A5 c3 c5 W6.heap.size W6.heap.size w' (by unfold maxLen; omega) (by unfold maxLen; omega) (HRD6.out.below hb) (HQ6.out.below hb) hb.size hb.size
    rwa [same_self'] at h
  have K1 := Lib.hid (k1 W6 (Below.refl _ _))
  have rc0 : W6.cell? ⟨w3.heap.size, 0, none⟩ = some (.int .i64 y.k) := B4.cell 0
  have rc1 : W6.cell? ⟨w3.heap.size, 1, none⟩ = some (.int .i64 y.n) := B4.cell 1
  have rc2 : W6.cell? ⟨w3.heap.size, 2, none⟩ = some (.string y.s) := B4.cell 2
  have rc3 : W6.cell? ⟨w3.heap.size, 3, none⟩ = some (.slice A3 y.l.length c3) := B4.cell 3
  have sc0 : W6.cell? ⟨w5.heap.size, 0, none⟩ = some (.int .i64 y.k) := B6.cell 0
  have sc1 : W6.cell? ⟨w5.heap.size, 1, none⟩ = some (.int .i64 y.n) := B6.cell 1
  have sc2 : W6.cell? ⟨w5.heap.size, 2, none⟩ = some (.string y.s) := B6.cell 2
  have sc3 : W6.cell? ⟨w5.heap.size, 3, none⟩ = some (.slice A5 y.l.length c5) := B6.cell 3
  have bt : (t.toList == t.toList) = true := strEq_true rfl
  have bf : (f == f) = true := by simp
  have bg : (f3 == f3) = true := by simp
  clear k1 HRD6 HQ6 HT HM HE HX HF B4 B6
  go_wp2_with fail
  refine K1.out.mono ?_
  rintro e w9 ⟨rfl, hb9⟩
  have hbw := hbw.trans (hb9.mono hbw.size)
  go_wp2
  go_ret
  exact ⟨ret_bool (by simp), hbw⟩
end Go.Proofs.YthnknmkekbledaaGreatDoor
