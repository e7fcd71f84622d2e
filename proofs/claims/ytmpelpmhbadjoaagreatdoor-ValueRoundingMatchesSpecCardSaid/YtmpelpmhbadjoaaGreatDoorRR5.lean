/- The reference's Inverse, amountOf, RatioOf; the program's magnitude, RatioOf and CheckRatio. -/
import Derived.Test.YtmpelpmhbadjoaaGreatDoorRR3
namespace Go.Proofs.YtmpelpmhbadjoaaGreatDoor
open Go.RowKit Limb Dig Rtx

set_option maxHeartbeats 2000000 in
set_option maxRecDepth 100000 in
theorem rinv_any (n d : ByteArray) (w : World) (hn : n.size ≤ maxLen) (hd : d.size ≤ maxLen) (htab : Tab w) :
    Calls Tryz.prog 14 #[.agg #[.string n, .string d]] w fun e w' => e = .returned (outV (invR (rx n d))) ∧ Below w.heap.size w w' := by
  have HT := Lib.hid htab
  clear htab
  go_enter Tryz.func14, Tryz.ntmps14
  go_wp2_with fail
  obtain ⟨W, hW⟩ : ∃ W, W = ((w.alloc (.cells #[.string n, .string d] 23 (0, 0))).alloc (.cells #[.string ⟨#[]⟩, .string ⟨#[]⟩] 23 (0, 0))) := ⟨_, rfl⟩
  have hbw : Below w.heap.size w W := by rw [hW]; exact (((Below.refl _ w).alloc (Nat.le_refl _) _).alloc (by simp) _)
  have B0 : Blk W (w.heap.size) 23 #[.string n, .string d] := by
    rw [hW]
    have := Blk.new w 23 #[.string n, .string d]
    have := this.alloc (.cells #[.string ⟨#[]⟩, .string ⟨#[]⟩] 23 (0, 0))
    exact this
  have B1 : Blk W (w.heap.size + 1) 23 #[.string ⟨#[]⟩, .string ⟨#[]⟩] := by
    rw [hW]
    have := Blk.new (w.alloc (.cells #[.string n, .string d] 23 (0, 0))) 23 #[.string ⟨#[]⟩, .string ⟨#[]⟩]
    rwa [World.size_alloc] at this
  have hsz : W.heap.size = w.heap.size + 2 := by rw [hW]; simp
  rw [← hW]
  clear hW hsz
  refine (rcheck_any n d W hn hd (HT.out.below hbw)).mono ?_
  rintro e w1 ⟨rfl, hb1⟩
  have B0 := B0.below hb1 B0.lt
  have B1 := B1.below hb1 B1.lt
  have hbw := hbw.trans (hb1.mono hbw.size)
  obtain ⟨f, hf⟩ : ∃ f, fltR (rx n d) = f := ⟨_, rfl⟩
  have HF := Lib.hid hf
  rw [hf]
  clear hf hb1
  have rc0 : w1.cell? ⟨w.heap.size + 1, 0, none⟩ = some (.string ⟨#[]⟩) := B1.cell 0
  have rz0 : w1.frozen? ⟨w.heap.size + 1, 0, none⟩ = false := B1.frozen 0
  have rc1 : w1.cell? ⟨w.heap.size + 1, 1, none⟩ = some (.string ⟨#[]⟩) := B1.cell 1
  have rz1 : w1.frozen? ⟨w.heap.size + 1, 1, none⟩ = false := B1.frozen 1
  by_cases h0 : f = 0
  rotate_left
  · have hne : (((f : Nat) : Int) != 0) = true := by simp; omega
    have HE := Lib.hid (show outV (invR (rx n d)) = .tuple #[.agg #[.string ⟨#[]⟩, .string ⟨#[]⟩], .int .i64 (f : Nat)] by
      unfold invR
      rw [if_pos (by rw [HF.out]; exact h0), HF.out]; rfl)
    go_wp2
    obtain ⟨W9, hW9⟩ : ∃ W9, W9 = (w1.setCell ⟨w.heap.size + 1, 0, none⟩ (.string ⟨#[]⟩)).setCell ⟨w.heap.size + 1, 1, none⟩ (.string ⟨#[]⟩) := ⟨_, rfl⟩
    have B9 : Blk W9 (w.heap.size + 1) 23 #[.string ⟨#[]⟩, .string ⟨#[]⟩] := hW9 ▸ B1.store2 _ _
    have hbw9 : Below w.heap.size w W9 := hW9 ▸ hbw.store2 (by omega) _ _
    rw [← hW9]
    clear hW9
    have qc0 : W9.cell? ⟨w.heap.size + 1, 0, none⟩ = some (.string ⟨#[]⟩) := B9.cell 0
    have qc1 : W9.cell? ⟨w.heap.size + 1, 1, none⟩ = some (.string ⟨#[]⟩) := B9.cell 1
    refine bodyPost_ret (v := .tuple #[.agg #[.string ⟨#[]⟩, .string ⟨#[]⟩], .int .i64 ((f : Nat) : Int)]) (by simp [results, Tryz.results14, go_sem, qc0, qc1]) rfl ⟨ret_val (HE.out.symm), hbw9⟩
  subst h0
  have fc0 : w1.cell? ⟨w.heap.size, 0, none⟩ = some (.string n) := B0.cell 0
  have fc1 : w1.cell? ⟨w.heap.size, 1, none⟩ = some (.string d) := B0.cell 1
  go_wp2_with fail
  refine (open_sl n d w1 HF.out).mono ?_
  rintro e w2 ⟨⟨b1, A1, n1, c1, A2, n2, c2, rfl, hp⟩, hb2⟩
  have HU := Lib.hid hp
  have B1 := B1.below hb2 B1.lt
  have hbw := hbw.trans (hb2.mono hbw.size)
  clear hp hb2 rc0 rc1 rz0 rz1 fc0 fc1
  go_upto_region 5 with (fail)
  obtain ⟨W2, hW2⟩ : ∃ W2, W2 = w2.alloc (.cells #[.bool b1, .slice A1 n1 c1, .slice A2 n2 c2] 53 (0, 0)) := ⟨_, rfl⟩
  have hb2 : Below w2.heap.size w2 W2 := hW2 ▸ (Below.refl _ w2).alloc (Nat.le_refl _) _
  have B3 : Blk W2 w2.heap.size 53 #[.bool b1, .slice A1 n1 c1, .slice A2 n2 c2] := by
    rw [hW2]
    exact Blk.new w2 53 #[.bool b1, .slice A1 n1 c1, .slice A2 n2 c2]
  rw [← hW2]
  clear hW2
  have hbw := hbw.trans (hb2.mono hbw.size)
  have B1 := B1.below hb2 B1.lt
  have rc0 : W2.cell? ⟨w.heap.size + 1, 0, none⟩ = some (.string ⟨#[]⟩) := B1.cell 0
  have rz0 : W2.frozen? ⟨w.heap.size + 1, 0, none⟩ = false := B1.frozen 0
  have rc1 : W2.cell? ⟨w.heap.size + 1, 1, none⟩ = some (.string ⟨#[]⟩) := B1.cell 1
  have rz1 : W2.frozen? ⟨w.heap.size + 1, 1, none⟩ = false := B1.frozen 1
  have uc0 : W2.cell? ⟨w2.heap.size, 0, none⟩ = some (.bool b1) := B3.cell 0
  have uc1 : W2.cell? ⟨w2.heap.size, 1, none⟩ = some (.slice A1 n1 c1) := B3.cell 1
  have uc2 : W2.cell? ⟨w2.heap.size, 2, none⟩ = some (.slice A2 n2 c2) := B3.cell 2
  obtain ⟨x1, hx1⟩ : ∃ x, digVal (cutN n.data.toList).1 = x := ⟨_, rfl⟩
  obtain ⟨y1, hy1⟩ : ∃ x, digVal d.data.toList = x := ⟨_, rfl⟩
  obtain ⟨e1, g1, g2, g3⟩ := (HU.out.below hb2).parts
  rw [hx1] at g1
  rw [hy1] at g2 g3
  have HV := Lib.hid (show valR (rx n d) = ratQ b1 x1 y1 by
    unfold valR
    show ratQ (cutN n.data.toList).2 (digVal (cutN n.data.toList).1) (digVal d.data.toList) = _
    rw [hx1, hy1, ← e1])
  have HG1 := Lib.hid g1
  have HG2 := Lib.hid g2
  obtain ⟨An, nn, cn, en, hnn, -⟩ := g1.form
  injection en with en1 en2 en3
  subst en1 en2 en3
  clear g1 g2 e1 hx1 hy1 hb2 HU
  by_cases hz : n1 = 0
  · have HE := Lib.hid (show outV (invR (rx n d)) = .tuple #[.agg #[.string ⟨#[]⟩, .string ⟨#[]⟩], .int .i64 19] by
      unfold invR
      rw [if_neg (by rw [HF.out]; simp), if_pos (by rw [HV.out]; exact (ratQ_zero _ _ _ g3).2 (by omega))]; rfl)
    have hz2 : (((n1 : Nat) : Int) == 0) = true := by simp; omega
    clear hnn
    go_wp2
    obtain ⟨W9, hW9⟩ : ∃ W9, W9 = (W2.setCell ⟨w.heap.size + 1, 0, none⟩ (.string ⟨#[]⟩)).setCell ⟨w.heap.size + 1, 1, none⟩ (.string ⟨#[]⟩) := ⟨_, rfl⟩
    have B9 : Blk W9 (w.heap.size + 1) 23 #[.string ⟨#[]⟩, .string ⟨#[]⟩] := hW9 ▸ B1.store2 _ _
    have hbw9 : Below w.heap.size w W9 := hW9 ▸ hbw.store2 (by omega) _ _
    rw [← hW9]
    clear hW9
    have qc0 : W9.cell? ⟨w.heap.size + 1, 0, none⟩ = some (.string ⟨#[]⟩) := B9.cell 0
    have qc1 : W9.cell? ⟨w.heap.size + 1, 1, none⟩ = some (.string ⟨#[]⟩) := B9.cell 1
    refine bodyPost_ret (v := .tuple #[.agg #[.string ⟨#[]⟩, .string ⟨#[]⟩], .int .i64 19]) (by simp [results, Tryz.results14, go_sem, qc0, qc1]) rfl ⟨ret_val (HE.out.symm), hbw9⟩
  have hx0 : 0 < x1 := hnn.1 (by omega)
  have HE := Lib.hid (show invR (rx n d) = outR (valR (rx n d))⁻¹ by
    unfold invR
    rw [if_neg (by rw [HF.out]; simp), if_neg (by rw [HV.out]; exact fun h => by have := (ratQ_zero _ _ _ g3).1 h; omega)])
  have HQ := Lib.hid (show ratQ b1 y1 x1 = (valR (rx n d))⁻¹ by rw [HV.out]; exact (ratQ_inv _ _ _ hx0 g3).symm)
  have hz2 : (((n1 : Nat) : Int) == 0) = false := by simp; omega
  clear hnn
  go_wp2_with fail
  refine (shut_q W2 223 y1 x1 _ b1 _ ⟨_, _, _, _, _, _, rfl, HG2.out, HG1.out, hx0⟩ HQ.out (by omega) (HT.out.below hbw)).mono ?_
  rintro e w4 ⟨⟨S1, S2, k, rfl, hout⟩, hb4⟩
  have HO := Lib.hid hout
  have hbw := hbw.trans (hb4.mono hbw.size)
  have B1 := B1.below hb4 B1.lt
  clear hout rc0 rz0 rc1 rz1 uc0 uc1 uc2 hz2
  have rc0 : w4.cell? ⟨w.heap.size + 1, 0, none⟩ = some (.string ⟨#[]⟩) := B1.cell 0
  have rz0 : w4.frozen? ⟨w.heap.size + 1, 0, none⟩ = false := B1.frozen 0
  have rc1 : w4.cell? ⟨w.heap.size + 1, 1, none⟩ = some (.string ⟨#[]⟩) := B1.cell 1
  have rz1 : w4.frozen? ⟨w.heap.size + 1, 1, none⟩ = false := B1.frozen 1
  go_wp2
  obtain ⟨W9, hW9⟩ : ∃ W9, W9 = (w4.setCell ⟨w.heap.size + 1, 0, none⟩ (.string S1)).setCell ⟨w.heap.size + 1, 1, none⟩ (.string S2) := ⟨_, rfl⟩
  have B9 : Blk W9 (w.heap.size + 1) 23 #[.string S1, .string S2] := hW9 ▸ B1.store2 _ _
  have hbw9 : Below w.heap.size w W9 := hW9 ▸ hbw.store2 (by omega) _ _
  rw [← hW9]
  clear hW9
  have qc0 : W9.cell? ⟨w.heap.size + 1, 0, none⟩ = some (.string S1) := B9.cell 0
  have qc1 : W9.cell? ⟨w.heap.size + 1, 1, none⟩ = some (.string S2) := B9.cell 1
  refine bodyPost_ret (v := .tuple #[.agg #[.string S1, .string S2], .int .i64 k]) (by simp [results, Tryz.results14, go_sem, qc0, qc1]) rfl ⟨ret_val (by rw [HE.out, HO.out]), hbw9⟩

/-- a quotient of integers as a ratio -/
def ratioI (a b : Int) : R × Nat := if b = 0 then (noR, 19) else outR (ratQ (decide (a < 0) != decide (b < 0)) a.natAbs b.natAbs)
theorem ratioI_zero {a b : Int} (h : b = 0) : ratioI a b = (noR, 19) := if_pos h
theorem ratioI_ne {a b : Int} (h : ¬ b = 0) : ratioI a b = outR (ratQ (decide (a < 0) != decide (b < 0)) a.natAbs b.natAbs) := if_neg h
set_option maxHeartbeats 1000000 in
theorem ramount_any (n : Int) (w : World) (h1 : -9223372036854775808 ≤ n) (h2 : n ≤ 9223372036854775807) :
    Calls Tryz.prog 27 #[.int .i64 n] w fun e w' => (∃ A m c, e = .returned (.slice A m c) ∧ RepI w' 4 (.slice A m c) n.natAbs) ∧ Below w.heap.size w w' := by
  by_cases hn : 0 ≤ n
  · have HS := Lib.hid (fun w' => (show Calls Tryz.prog 54 #[.int .i64 n] w' fun e w'' => (∃ A m c, e = .returned (.slice A m c) ∧ RepI w'' 4 (.slice A m c) n.natAbs) ∧ Below w'.heap.size w' w'' by
      have e : n = ((n.natAbs : Nat) : Int) := by omega
      have h := rsmall_any n.natAbs w' (by omega)
      rw [← e] at h
      exact h.mono fun _ _ ⟨h, hb⟩ => by
        obtain ⟨A, m, c, he, hv⟩ := sl_formI h
        exact ⟨⟨A, m, c, he, hv.mono (by omega)⟩, hb⟩))
    go_enter Tryz.func27, Tryz.ntmps27
    go_wp2_with (go_at_call 54; refine (HS.out _).mono ?_; rintro e w1 ⟨⟨A, m, c, rfl, hv⟩, hb⟩)
    go_ret
    exact ⟨⟨_, _, _, rfl, hv⟩, hb⟩
  · have HS := Lib.hid (fun w' => (show Calls Tryz.prog 54 #[.int .i64 (-(n + 1))] w' fun e w'' => (∃ A m c, e = .returned (.slice A m c) ∧ RepI w'' 3 (.slice A m c) (n.natAbs - 1)) ∧ Below w'.heap.size w' w'' by
      have e : -(n + 1) = ((n.natAbs - 1 : Nat) : Int) := by omega
      have h := rsmall_any (n.natAbs - 1) w' (by omega)
      rw [← e] at h
      exact h.mono fun _ _ ⟨h, hb⟩ => ⟨sl_formI h, hb⟩))
    have HS1 := Lib.hid (fun w' => (show Calls Tryz.prog 54 #[.int .i64 1] w' fun e w'' => (∃ A m c, e = .returned (.slice A m c) ∧ RepI w'' 3 (.slice A m c) 1) ∧ Below w'.heap.size w' w'' from
      (rsmall_any 1 w' (by omega)).mono fun _ _ ⟨h, hb⟩ => ⟨sl_formI h, hb⟩))
    have hN := Lib.hid (show n.natAbs - 1 + 1 = n.natAbs by omega)
    go_enter Tryz.func27, Tryz.ntmps27
    go_wp2_with fail
    refine (HS.out _).mono ?_
    rintro e w1 ⟨⟨A, m, c, rfl, hv⟩, hb⟩
    go_wp2_with fail
    refine (HS1.out _).mono ?_
    rintro e w2 ⟨⟨A', m', c', rfl, hv'⟩, hb'⟩
    have hb := hb.trans (hb'.mono hb.size)
    go_wp2_with fail
    refine (rplus_rep w2 3 3 _ _ _ _ (hv.below hb') hv' (by omega) (by omega)).mono ?_
    rintro e w3 ⟨h3, hb3⟩
    obtain ⟨A3, m3, c3, rfl, hv3⟩ := sl_formI h3
    rw [hN.out] at hv3
    have HV := Lib.hid hv3
    clear h3 hv3 hv hv'
    go_wp2
    go_ret
    exact ⟨⟨_, _, _, rfl, HV.out.mono (by omega)⟩, hb.trans (hb3.mono hb.size)⟩

set_option maxHeartbeats 2000000 in
set_option maxRecDepth 100000 in
theorem rratioOf_any (a b : Int) (w : World) (h1 : -9223372036854775808 ≤ a) (h2 : a ≤ 9223372036854775807) (h3 : -9223372036854775808 ≤ b) (h4 : b ≤ 9223372036854775807) (htab : Tab w) :
    Calls Tryz.prog 6 #[.int .i64 a, .int .i64 b] w fun e w' => e = .returned (outV (ratioI a b)) ∧ Below w.heap.size w w' := by
  have HT := Lib.hid htab
  clear htab
  by_cases h0 : b = 0
  · have HE := Lib.hid (show outV (ratioI a b) = .tuple #[.agg #[.string ⟨#[]⟩, .string ⟨#[]⟩], .int .i64 19] by rw [ratioI_zero h0]; rfl)
    rw [HE.out]
    subst h0
    go_enter Tryz.func6, Tryz.ntmps6
    go_wp2_with fail
    have B1 := Blk.new w 23 #[.string ⟨#[]⟩, .string ⟨#[]⟩]
    have hbw : Below w.heap.size w (w.alloc (.cells #[.string ⟨#[]⟩, .string ⟨#[]⟩] 23 (0, 0))) := (Below.refl _ w).alloc (Nat.le_refl _) _
    obtain ⟨W, hW⟩ : ∃ W, W = w.alloc (.cells #[.string ⟨#[]⟩, .string ⟨#[]⟩] 23 (0, 0)) := ⟨_, rfl⟩
    rw [← hW] at B1 hbw ⊢
    clear hW
    have rc0 : W.cell? ⟨w.heap.size, 0, none⟩ = some (.string ⟨#[]⟩) := B1.cell 0
    have rc1 : W.cell? ⟨w.heap.size, 1, none⟩ = some (.string ⟨#[]⟩) := B1.cell 1
    exact bodyPost_ret (v := .tuple #[.agg #[.string ⟨#[]⟩, .string ⟨#[]⟩], .int .i64 19]) (by simp [results, Tryz.results6, go_sem, rc0, rc1]) rfl ⟨rfl, hbw⟩
  have HE := Lib.hid (ratioI_ne (a := a) h0)
  have hb0 : (b == 0) = false := by simpa using h0
  have hy : 0 < b.natAbs := by omega
  obtain ⟨s, hs⟩ : ∃ s, (!(decide (a < 0) == decide (b < 0))) = s := ⟨_, rfl⟩
  have HE := Lib.hid (show ratioI a b = outR (ratQ s a.natAbs b.natAbs) by rw [HE.out, ← hs]; rfl)
  go_enter Tryz.func6, Tryz.ntmps6
  go_upto_region 3 with (fail)
  have B1 := Blk.new w 23 #[.string ⟨#[]⟩, .string ⟨#[]⟩]
  have hbw : Below w.heap.size w (w.alloc (.cells #[.string ⟨#[]⟩, .string ⟨#[]⟩] 23 (0, 0))) := (Below.refl _ w).alloc (Nat.le_refl _) _
  obtain ⟨W, hW⟩ : ∃ W, W = w.alloc (.cells #[.string ⟨#[]⟩, .string ⟨#[]⟩] 23 (0, 0)) := ⟨_, rfl⟩
  rw [← hW] at B1 hbw ⊢
  clear hW h0 hb0
  go_wp2_with fail
  refine (ramount_any a _ h1 h2).mono ?_
  rintro e w1 ⟨⟨A1, m1, c1, rfl, hv1⟩, hb1⟩
  have HV1 := Lib.hid hv1
  have hbw := hbw.trans (hb1.mono hbw.size)
  have B1 := B1.below hb1 B1.lt
  clear hv1 hb1
  go_wp2_with fail
  refine (ramount_any b _ h3 h4).mono ?_
  rintro e w2 ⟨⟨A2, m2, c2, rfl, hv2⟩, hb2⟩
  have HV1 := Lib.hid (HV1.out.below hb2)
  have HV2 := Lib.hid hv2
  have hbw := hbw.trans (hb2.mono hbw.size)
  have B1 := B1.below hb2 B1.lt
  clear hv2 hb2
  go_wp2_with fail
  refine (shut_q w2 4 _ _ _ s _ ⟨_, _, _, _, _, _, rfl, HV1.out, HV2.out, hy⟩ rfl (by omega) (HT.out.below hbw)).mono ?_
  rintro e w6 ⟨⟨S1, S2, k, rfl, hout⟩, hb6⟩
  have hbw := hbw.trans (hb6.mono hbw.size)
  have B1 := B1.below hb6 B1.lt
  have HO := Lib.hid hout
  clear hout
  have rc0 : w6.cell? ⟨w.heap.size, 0, none⟩ = some (.string ⟨#[]⟩) := B1.cell 0
  have rz0 : w6.frozen? ⟨w.heap.size, 0, none⟩ = false := B1.frozen 0
  have rc1 : w6.cell? ⟨w.heap.size, 1, none⟩ = some (.string ⟨#[]⟩) := B1.cell 1
  have rz1 : w6.frozen? ⟨w.heap.size, 1, none⟩ = false := B1.frozen 1
  go_wp2
  obtain ⟨W9, hW9⟩ : ∃ W9, W9 = (w6.setCell ⟨w.heap.size, 0, none⟩ (.string S1)).setCell ⟨w.heap.size, 1, none⟩ (.string S2) := ⟨_, rfl⟩
  have B9 : Blk W9 (w.heap.size) 23 #[.string S1, .string S2] := hW9 ▸ B1.store2 _ _
  have hbw9 : Below w.heap.size w W9 := hW9 ▸ hbw.store2 (by omega) _ _
  rw [← hW9]
  clear hW9
  have qc0 : W9.cell? ⟨w.heap.size, 0, none⟩ = some (.string S1) := B9.cell 0
  have qc1 : W9.cell? ⟨w.heap.size, 1, none⟩ = some (.string S2) := B9.cell 1
  refine bodyPost_ret (v := .tuple #[.agg #[.string S1, .string S2], .int .i64 k]) (by simp [results, Tryz.results6, go_sem, qc0, qc1]) rfl ⟨ret_val (by rw [HE.out, HO.out]), hbw9⟩

theorem u64_neg {n : Int} (h1 : -9223372036854775808 ≤ n) (h2 : n < 0) : IntKind.u64.wrap (-(IntKind.u64.wrap n)) = ((n.natAbs : Nat) : Int) := by
  unfold IntKind.wrap
  simp [IntKind.bits, IntKind.signed]
  omega
theorem u64_pos {n : Int} (h1 : 0 ≤ n) (h2 : n ≤ 9223372036854775807) : IntKind.u64.wrap n = ((n.natAbs : Nat) : Int) := by
  unfold IntKind.wrap
  simp [IntKind.bits, IntKind.signed]
  omega
theorem magnitude_any (n : Int) (w : World) (h1 : -9223372036854775808 ≤ n) (h2 : n ≤ 9223372036854775807) :
    Calls Tryz.prog 24 #[.int .i64 n] w fun e w' => e = .returned (.int .u64 (n.natAbs : Nat)) ∧ w = w' := by
  by_cases hn : n < 0
  · have HN := Lib.hid (u64_neg h1 hn)
    go_enter Tryz.func24, Tryz.ntmps24
    go_wp2
    go_ret
    exact ⟨ret_val (by rw [HN.out]; rfl), rfl⟩
  · have HN := Lib.hid (u64_pos (by omega) h2)
    go_enter Tryz.func24, Tryz.ntmps24
    go_wp2
    go_ret
    exact ⟨ret_val (by first | (rw [HN.out]; rfl) | (rw [show ((n.natAbs : Nat) : Int) = n by omega]; rfl) | rfl), rfl⟩
theorem small_mag (n : Int) (w : World) (h1 : -9223372036854775808 ≤ n) (h2 : n ≤ 9223372036854775807) :
    Calls Tryz.prog 23 #[.int .u64 (n.natAbs : Nat)] w fun e w' => (∃ A m c, e = .returned (.slice A m c) ∧ Rep w' 3 (.slice A m c) n.natAbs) ∧ Below w.heap.size w w' :=
  (small_any n.natAbs w (by omega)).mono fun _ _ ⟨⟨v, he, hv⟩, hb⟩ => by
    obtain ⟨A, m, c, rfl, _⟩ := hv.form
    exact ⟨⟨A, m, c, he, hv⟩, hb⟩

set_option maxHeartbeats 2000000 in
set_option maxRecDepth 100000 in
theorem ratioOf_any (a b : Int) (w : World) (h1 : -9223372036854775808 ≤ a) (h2 : a ≤ 9223372036854775807) (h3 : -9223372036854775808 ≤ b) (h4 : b ≤ 9223372036854775807) (htab : Tab w) :
    Calls Tryz.prog 5 #[.int .i64 a, .int .i64 b] w fun e w' => e = .returned (outV (ratioI a b)) ∧ Below w.heap.size w w' := by
  have HT := Lib.hid htab
  clear htab
  by_cases h0 : b = 0
  · have HE := Lib.hid (show outV (ratioI a b) = .tuple #[.agg #[.string ⟨#[]⟩, .string ⟨#[]⟩], .int .i64 19] by rw [ratioI_zero h0]; rfl)
    rw [HE.out]
    subst h0
    go_enter Tryz.func5, Tryz.ntmps5
    go_wp2_with fail
    have B1 := Blk.new w 23 #[.string ⟨#[]⟩, .string ⟨#[]⟩]
    have hbw : Below w.heap.size w (w.alloc (.cells #[.string ⟨#[]⟩, .string ⟨#[]⟩] 23 (0, 0))) := (Below.refl _ w).alloc (Nat.le_refl _) _
    obtain ⟨W, hW⟩ : ∃ W, W = w.alloc (.cells #[.string ⟨#[]⟩, .string ⟨#[]⟩] 23 (0, 0)) := ⟨_, rfl⟩
    rw [← hW] at B1 hbw ⊢
    clear hW
    have rc0 : W.cell? ⟨w.heap.size, 0, none⟩ = some (.string ⟨#[]⟩) := B1.cell 0
    have rc1 : W.cell? ⟨w.heap.size, 1, none⟩ = some (.string ⟨#[]⟩) := B1.cell 1
    exact bodyPost_ret (v := .tuple #[.agg #[.string ⟨#[]⟩, .string ⟨#[]⟩], .int .i64 19]) (by simp [results, Tryz.results5, go_sem, rc0, rc1]) rfl ⟨rfl, hbw⟩
  have HE := Lib.hid (ratioI_ne (a := a) h0)
  have hb0 : (b == 0) = false := by simpa using h0
  have hy : 0 < b.natAbs := by omega
  obtain ⟨s, hs⟩ : ∃ s, (!(decide (a < 0) == decide (b < 0))) = s := ⟨_, rfl⟩
  have HE := Lib.hid (show ratioI a b = outR (ratQ s a.natAbs b.natAbs) by rw [HE.out, ← hs]; rfl)
  go_enter Tryz.func5, Tryz.ntmps5
  go_upto_region 3 with (fail)
  have B1 := Blk.new w 23 #[.string ⟨#[]⟩, .string ⟨#[]⟩]
  have hbw : Below w.heap.size w (w.alloc (.cells #[.string ⟨#[]⟩, .string ⟨#[]⟩] 23 (0, 0))) := (Below.refl _ w).alloc (Nat.le_refl _) _
  obtain ⟨W, hW⟩ : ∃ W, W = w.alloc (.cells #[.string ⟨#[]⟩, .string ⟨#[]⟩] 23 (0, 0)) := ⟨_, rfl⟩
  rw [← hW] at B1 hbw ⊢
  clear hW h0 hb0
  go_wp2_with fail
  refine (magnitude_any a _ h1 h2).mono ?_
  rintro e w1 ⟨rfl, rfl⟩
  go_wp2_with fail
  refine (small_mag a _ h1 h2).mono ?_
  rintro e w1 ⟨⟨A1, m1, c1, rfl, hv1⟩, hb1⟩
  have HV1 := Lib.hid hv1
  have hbw := hbw.trans (hb1.mono hbw.size)
  have B1 := B1.below hb1 B1.lt
  clear hv1 hb1
  go_wp2_with fail
  refine (magnitude_any b _ h3 h4).mono ?_
  rintro e w2 ⟨rfl, rfl⟩
  go_wp2_with fail
  refine (small_mag b _ h3 h4).mono ?_
  rintro e w2 ⟨⟨A2, m2, c2, rfl, hv2⟩, hb2⟩
  have HV1 := Lib.hid (HV1.out.below hb2)
  have HV2 := Lib.hid hv2
  have hbw := hbw.trans (hb2.mono hbw.size)
  have B1 := B1.below hb2 B1.lt
  clear hv2 hb2
  go_wp2_with fail
  refine (ratio_q w2 3 _ _ _ s _ ⟨⟨_, _, rfl, HV1.out, HV2.out, hy⟩⟩ rfl (by omega) (HT.out.below hbw)).mono ?_
  rintro e w6 ⟨⟨S1, S2, k, rfl, hout⟩, hb6⟩
  have hbw := hbw.trans (hb6.mono hbw.size)
  have B1 := B1.below hb6 B1.lt
  have HO := Lib.hid hout
  clear hout
  have rc0 : w6.cell? ⟨w.heap.size, 0, none⟩ = some (.string ⟨#[]⟩) := B1.cell 0
  have rz0 : w6.frozen? ⟨w.heap.size, 0, none⟩ = false := B1.frozen 0
  have rc1 : w6.cell? ⟨w.heap.size, 1, none⟩ = some (.string ⟨#[]⟩) := B1.cell 1
  have rz1 : w6.frozen? ⟨w.heap.size, 1, none⟩ = false := B1.frozen 1
  go_wp2
  obtain ⟨W9, hW9⟩ : ∃ W9, W9 = (w6.setCell ⟨w.heap.size, 0, none⟩ (.string S1)).setCell ⟨w.heap.size, 1, none⟩ (.string S2) := ⟨_, rfl⟩
  have B9 : Blk W9 (w.heap.size) 23 #[.string S1, .string S2] := hW9 ▸ B1.store2 _ _
  have hbw9 : Below w.heap.size w W9 := hW9 ▸ hbw.store2 (by omega) _ _
  rw [← hW9]
  clear hW9
  have qc0 : W9.cell? ⟨w.heap.size, 0, none⟩ = some (.string S1) := B9.cell 0
  have qc1 : W9.cell? ⟨w.heap.size, 1, none⟩ = some (.string S2) := B9.cell 1
  refine bodyPost_ret (v := .tuple #[.agg #[.string S1, .string S2], .int .i64 k]) (by simp [results, Tryz.results5, go_sem, qc0, qc1]) rfl ⟨ret_val (by rw [HE.out, HO.out]), hbw9⟩

set_option maxHeartbeats 1000000 in
theorem check_any (n d : ByteArray) (w : World) (hn : n.size ≤ maxLen) (hd : d.size ≤ maxLen) :
    Calls Tryz.prog 7 #[.agg #[.string n, .string d]] w fun e w' => e = .returned (.int .i64 (fltR (rx n d) : Nat)) ∧ Below w.heap.size w w' := by
  go_enter Tryz.func7, Tryz.ntmps7
  go_wp2_with fail
  obtain ⟨W, hW⟩ : ∃ W, W = (w.alloc (.cells #[.string n, .string d] 23 (0, 0))) := ⟨_, rfl⟩
  have hbw : Below w.heap.size w W := by rw [hW]; exact ((Below.refl _ w).alloc (Nat.le_refl _) _)
  have B0 : Blk W (w.heap.size) 23 #[.string n, .string d] := by
    rw [hW]
    have := Blk.new w 23 #[.string n, .string d]
    exact this
  have hsz : W.heap.size = w.heap.size + 1 := by rw [hW]; simp
  rw [← hW]
  clear hW hsz
  refine (fractionOf_any n d W hn hd).mono ?_
  rintro e w1 ⟨⟨u, rfl, hu⟩, hb1⟩
  obtain ⟨bu, A1, n1, c1, A2, n2, c2, rfl⟩ := hu.form
  have hbw := hbw.trans (hb1.mono hbw.size)
  obtain ⟨f, hf⟩ : ∃ f, fltR (rx n d) = f := ⟨_, rfl⟩
  have HF := Lib.hid hf
  rw [hf]
  clear hf hb1 hu
  go_wp2
  go_ret
  exact ⟨ret_val (by rw [HF.out]; rfl), hbw.alloc hbw.size _⟩
end Go.Proofs.YtmpelpmhbadjoaaGreatDoor
