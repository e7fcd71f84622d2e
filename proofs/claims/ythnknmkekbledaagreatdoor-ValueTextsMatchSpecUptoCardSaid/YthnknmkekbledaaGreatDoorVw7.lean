/- The walks of Show and readSet. -/
import Derived.Test.YthnknmkekbledaaGreatDoorVw6
namespace Go.Proofs.YthnknmkekbledaaGreatDoor
open Go.RowKit Dig Vtx

theorem snd_of {x : Val} (h : checkV x = 0) : Snd x.k x.n x.s.data.toList x.l ∧ x.l.length ≤ 40 ∧ x.s.size ≤ 200 := by
  unfold checkV at h
  by_cases h1 : outB x.k 0 7 = true
  · rw [if_pos h1] at h; cases h
  rw [if_neg h1] at h
  by_cases h2 : unusedB x = true
  · rw [if_pos h2] at h; cases h
  rw [if_neg h2] at h
  by_cases h3 : outB x.n (loOf x.k) (hiOf x.k) = true
  · rw [if_pos h3] at h; cases h
  rw [if_neg h3] at h
  by_cases h4 : 200 < x.s.size ∨ 40 < x.l.length
  · rw [if_pos h4] at h; cases h
  rw [if_neg h4] at h
  by_cases h5 : badStr x.s = true
  · rw [if_pos h5] at h; cases h
  rw [if_neg h5] at h
  by_cases h6 : x.l.any badCode = true
  · rw [if_pos h6] at h; cases h
  clear h h5
  have hc : ∀ c ∈ x.l, 1 ≤ c ∧ c ≤ 999 := by
    intro c hc
    rw [Bool.not_eq_true, List.any_eq_false] at h6
    have := h6 c hc
    simp only [badCode, outB, Bool.or_eq_true, decide_eq_true_eq, not_or] at this
    omega
  simp only [not_or] at h4
  refine ⟨?_, by omega, by omega⟩
  simp only [outB, Bool.or_eq_true, decide_eq_true_eq, not_or] at h1 h3
  obtain ⟨k, n, s, l⟩ := x
  simp only [unusedB] at h2
  simp only at h1 h3 hc
  rw [ByteArray.toList_eq] at h2
  show Snd k n s.data.toList l
  generalize s.data.toList = S at h2
  clear h4 h6
  have hk : k = 0 ∨ k = 1 ∨ k = 2 ∨ k = 3 ∨ k = 4 ∨ k = 5 ∨ k = 6 ∨ k = 7 := by omega
  rcases hk with rfl | rfl | rfl | rfl | rfl | rfl | rfl | rfl
  all_goals simp [usesB] at h2
  · obtain ⟨rfl, rfl, rfl⟩ := h2
    exact .none_
  · obtain ⟨rfl, rfl⟩ := h2
    simp [loOf, hiOf] at h3
    exact .word (by omega) (by omega)
  · obtain ⟨rfl, rfl⟩ := h2
    simp [loOf, hiOf] at h3
    exact .num (by omega) (by omega)
  · obtain ⟨rfl, rfl⟩ := h2
    exact .text _
  · obtain ⟨rfl, rfl⟩ := h2
    simp [loOf, hiOf] at h3
    exact .code (by omega) (by omega)
  · obtain ⟨rfl, rfl⟩ := h2
    exact .set hc
  · obtain ⟨rfl, rfl⟩ := h2
    simp [loOf, hiOf] at h3
    exact .day (by omega) (by omega)
  · obtain ⟨rfl, rfl⟩ := h2
    simp [loOf, hiOf] at h3
    exact .bool (by omega) (by omega)
set_option maxHeartbeats 1000000 in
theorem Show_any (x : Val) (A : Option Addr) (c : Nat) (w : World) (hl : x.l.length ≤ maxLen) (hs : x.s.size ≤ maxLen) (hx : Reads w w.heap.size 1 A x.l.length (numV .i64 x.l)) (htab : Tab w) (hm : Mx w) :
    Calls Tryz.prog 4 #[.agg #[.int .i64 x.k, .int .i64 x.n, .string x.s, .slice A x.l.length c]] w fun e w' => (∃ t : ByteArray, e = .returned (.tuple #[.string t, .int .i64 (checkV x)]) ∧ (checkV x = 0 → t.data.toList = showT x.k x.n x.s.data.toList x.l)) ∧ Below w.heap.size w w' := by
  have HT := Lib.hid htab
  have HM := Lib.hid hm
  have HX := Lib.hid hx
  clear htab hm hx
  go_enter Tryz.func4, Tryz.ntmps4
  go_wp2_with fail
  obtain ⟨W, hW⟩ : ∃ W, W = (w.alloc (.cells #[.int .i64 x.k, .int .i64 x.n, .string x.s, .slice A x.l.length c] 24 (0, 0))) := ⟨_, rfl⟩
  have hbw : Below w.heap.size w W := by rw [hW]; exact ((Below.refl _ w).alloc (Nat.le_refl _) _)
  have B0 : Blk W (w.heap.size) 24 #[.int .i64 x.k, .int .i64 x.n, .string x.s, .slice A x.l.length c] := by
    rw [hW]
    have := Blk.new w 24 #[.int .i64 x.k, .int .i64 x.n, .string x.s, .slice A x.l.length c]
    exact this
  have hsz : W.heap.size = w.heap.size + 1 := by rw [hW]; simp
  rw [← hW]
  clear hW
  refine (check_any x A c w.heap.size W hl hs (HX.out.below hbw) hbw.size).mono ?_
  rintro e w1 ⟨rfl, hb1⟩
  have B0 := B0.below hb1 B0.lt
  have hbw := hbw.trans (hb1.mono hbw.size)
  obtain ⟨f, hf⟩ : ∃ f, checkV x = f := ⟨_, rfl⟩
  have HF := Lib.hid hf
  rw [hf]
  clear hf hb1 hsz
  by_cases h0 : f = 0
  rotate_left
  · have hne : (f != 0) = true := by simpa using h0
    have H0 := Lib.hid h0
    clear h0
    go_wp2
    go_ret2
    exact ⟨⟨⟨#[]⟩, ret_val (by rw [HF.out]; rfl), fun h => absurd (HF.out.symm.trans h) H0.out⟩, hbw⟩
  subst h0
  obtain ⟨hq, hl4, hs2⟩ := snd_of HF.out
  have HQ := Lib.hid hq
  clear hq
  have vc0 : w1.cell? ⟨w.heap.size, 0, none⟩ = some (.int .i64 x.k) := B0.cell 0
  have vc1 : w1.cell? ⟨w.heap.size, 1, none⟩ = some (.int .i64 x.n) := B0.cell 1
  have vc2 : w1.cell? ⟨w.heap.size, 2, none⟩ = some (.string x.s) := B0.cell 2
  have vc3 : w1.cell? ⟨w.heap.size, 3, none⟩ = some (.slice A x.l.length c) := B0.cell 3
  go_wp2_with fail
  refine (show_any x.k x.n x.s x.l _ A c w.heap.size w1 rfl HQ.out (by omega) (by omega) (HX.out.below hbw) hbw.size (HT.out.below hbw) (HM.out.below hbw)).mono ?_
  rintro e w2 ⟨⟨t, rfl, ht⟩, hb2⟩
  have HTT := Lib.hid ht
  have hbw := hbw.trans (hb2.mono hbw.size)
  clear ht hb2 vc0 vc1 vc2 vc3
  go_wp2
  go_ret2
  exact ⟨⟨t, ret_val (by rw [HF.out]; rfl), fun _ => HTT.out⟩, hbw⟩
end Go.Proofs.YthnknmkekbledaaGreatDoor
