/- The reference's Sum. -/
import Derived.Test.YtmpelpmhbadjoaaGreatDoorRR3
namespace Go.Proofs.YtmpelpmhbadjoaaGreatDoor
open Go.RowKit Limb Dig Rtx

theorem sl_to {e : Ending} {w : World} {L L' x : Nat} (h : ∃ v, e = .returned v ∧ RepI w L v x) (hL : L ≤ L') : ∃ A n c, e = .returned (.slice A n c) ∧ RepI w L' (.slice A n c) x := by
  obtain ⟨A, n, c, he, hv⟩ := sl_formI h
  exact ⟨A, n, c, he, hv.mono hL⟩
set_option maxHeartbeats 4000000 in
set_option maxRecDepth 100000 in
theorem rsum_any (n d n' d' : ByteArray) (w : World) (hn : n.size ≤ maxLen) (hd : d.size ≤ maxLen) (hn' : n'.size ≤ maxLen) (hd' : d'.size ≤ maxLen) (htab : Tab w) :
    Calls Tryz.prog 10 #[.agg #[.string n, .string d], .agg #[.string n', .string d']] w fun e w' => e = .returned (outV (sumR (rx n d) (rx n' d'))) ∧ Below w.heap.size w w' := by
  have HT := Lib.hid htab
  clear htab
  go_enter Tryz.func10, Tryz.ntmps10
  go_wp2_with fail
  obtain ⟨W, hW⟩ : ∃ W, W = (((w.alloc (.cells #[.string n, .string d] 23 (0, 0))).alloc (.cells #[.string n', .string d'] 23 (0, 0))).alloc (.cells #[.string ⟨#[]⟩, .string ⟨#[]⟩] 23 (0, 0))) := ⟨_, rfl⟩
  have hbw : Below w.heap.size w W := by rw [hW]; exact ((((Below.refl _ w).alloc (Nat.le_refl _) _).alloc (by simp) _).alloc (by simp; omega) _)
  have B0 : Blk W (w.heap.size) 23 #[.string n, .string d] := by
    rw [hW]
    have := Blk.new w 23 #[.string n, .string d]
    have := this.alloc (.cells #[.string n', .string d'] 23 (0, 0))
    have := this.alloc (.cells #[.string ⟨#[]⟩, .string ⟨#[]⟩] 23 (0, 0))
    exact this
  have B1 : Blk W (w.heap.size + 1) 23 #[.string n', .string d'] := by
    rw [hW]
    have := Blk.new (w.alloc (.cells #[.string n, .string d] 23 (0, 0))) 23 #[.string n', .string d']
    have := this.alloc (.cells #[.string ⟨#[]⟩, .string ⟨#[]⟩] 23 (0, 0))
    rwa [World.size_alloc] at this
  have B2 : Blk W (w.heap.size + 2) 23 #[.string ⟨#[]⟩, .string ⟨#[]⟩] := by
    rw [hW]
    have := Blk.new ((w.alloc (.cells #[.string n, .string d] 23 (0, 0))).alloc (.cells #[.string n', .string d'] 23 (0, 0))) 23 #[.string ⟨#[]⟩, .string ⟨#[]⟩]
    rwa [World.size_alloc, World.size_alloc] at this
  have hsz : W.heap.size = w.heap.size + 3 := by rw [hW]; simp
  rw [← hW]
  clear hW hsz
  refine (rboth_any n d n' d' W hn hd hn' hd' (HT.out.below hbw)).mono ?_
  rintro e w1 ⟨rfl, hb1⟩
  have B0 := B0.below hb1 B0.lt
  have B1 := B1.below hb1 B1.lt
  have B2 := B2.below hb1 B2.lt
  have hbw := hbw.trans (hb1.mono hbw.size)
  obtain ⟨f, hf⟩ : ∃ f, fltT (rx n d) (rx n' d') = f := ⟨_, rfl⟩
  have HF := Lib.hid hf
  rw [hf]
  clear hf
  have rc0 : w1.cell? ⟨w.heap.size + 2, 0, none⟩ = some (.string ⟨#[]⟩) := B2.cell 0
  have rz0 : w1.frozen? ⟨w.heap.size + 2, 0, none⟩ = false := B2.frozen 0
  have rc1 : w1.cell? ⟨w.heap.size + 2, 1, none⟩ = some (.string ⟨#[]⟩) := B2.cell 1
  have rz1 : w1.frozen? ⟨w.heap.size + 2, 1, none⟩ = false := B2.frozen 1
  by_cases h0 : f = 0
  rotate_left
  · have hne : (((f : Nat) : Int) != 0) = true := by simp; omega
    have HE := Lib.hid (show outV (sumR (rx n d) (rx n' d')) = .tuple #[.agg #[.string ⟨#[]⟩, .string ⟨#[]⟩], .int .i64 (f : Nat)] by
      have hf := HF.out
      unfold fltT at hf
      unfold sumR
      by_cases h1 : fltR (rx n d) = 0
      · rw [if_neg (by simp [h1])] at hf
        rw [if_neg (by simp [h1]), if_pos (by rw [hf]; exact h0), hf]; rfl
      · rw [if_pos h1] at hf
        rw [if_pos h1, hf]; rfl)
    clear hb1
    go_wp2
    obtain ⟨W9, hW9⟩ : ∃ W9, W9 = (w1.setCell ⟨w.heap.size + 2, 0, none⟩ (.string ⟨#[]⟩)).setCell ⟨w.heap.size + 2, 1, none⟩ (.string ⟨#[]⟩) := ⟨_, rfl⟩
    have B9 : Blk W9 (w.heap.size + 2) 23 #[.string ⟨#[]⟩, .string ⟨#[]⟩] := hW9 ▸ B2.store2 _ _
    have hbw9 : Below w.heap.size w W9 := hW9 ▸ hbw.store2 (by omega) _ _
    rw [← hW9]
    clear hW9
    have qc0 : W9.cell? ⟨w.heap.size + 2, 0, none⟩ = some (.string ⟨#[]⟩) := B9.cell 0
    have qc1 : W9.cell? ⟨w.heap.size + 2, 1, none⟩ = some (.string ⟨#[]⟩) := B9.cell 1
    refine bodyPost_ret (v := .tuple #[.agg #[.string ⟨#[]⟩, .string ⟨#[]⟩], .int .i64 ((f : Nat) : Int)]) (by simp [results, Tryz.results10, go_sem, qc0, qc1]) rfl ⟨ret_val (HE.out.symm), hbw9⟩
  subst h0
  have HFF := Lib.hid (show fltR (rx n d) = 0 ∧ fltR (rx n' d') = 0 by
    have hf := HF.out
    unfold fltT at hf
    by_cases h1 : fltR (rx n d) = 0
    · rw [if_neg (by simp [h1])] at hf
      exact ⟨h1, hf⟩
    · rw [if_pos h1] at hf
      exact absurd hf h1)
  have HE := Lib.hid (show sumR (rx n d) (rx n' d') = outR (valR (rx n d) + valR (rx n' d')) by
    unfold sumR
    rw [if_neg (by simp [HFF.out.1]), if_neg (by simp [HFF.out.2])])
  have HO1 : Hid (fltR (rx n d) = 0) := Lib.hid HFF.out.1
  have HO2 : Hid (fltR (rx n' d') = 0) := Lib.hid HFF.out.2
  clear hb1 rc0 rc1 rz0 rz1
  have fc0 : w1.cell? ⟨w.heap.size, 0, none⟩ = some (.string n) := B0.cell 0
  have fc1 : w1.cell? ⟨w.heap.size, 1, none⟩ = some (.string d) := B0.cell 1
  have gc0 : w1.cell? ⟨w.heap.size + 1, 0, none⟩ = some (.string n') := B1.cell 0
  have gc1 : w1.cell? ⟨w.heap.size + 1, 1, none⟩ = some (.string d') := B1.cell 1
  go_upto_region 4 with (fail)
  have K1 := Lib.hid (K_of (fun w' (hb : Below w1.heap.size w1 w') => open_sl n d w' HO1.out))
  have K2 := Lib.hid (K_of (fun w' (hb : Below w1.heap.size w1 w') => open_sl n' d' w' HO2.out))
  have hq0 : Below w1.heap.size w1 w1.drew := (Below.refl _ _).drew
  go_cut [7, 8] (fun p q wx => TwoI w1 wx p q (cutN n.data.toList).2 (digVal (cutN n.data.toList).1) (digVal d.data.toList) (cutN n'.data.toList).2 (digVal (cutN n'.data.toList).1) (digVal d'.data.toList))
  case first =>
    go_region_held3 (fun w' => w'.cell? ⟨w.heap.size, 0, none⟩ = some (.string n) ∧ w'.cell? ⟨w.heap.size, 1, none⟩ = some (.string d) ∧ w'.cell? ⟨w.heap.size + 1, 0, none⟩ = some (.string n') ∧ w'.cell? ⟨w.heap.size + 1, 1, none⟩ = some (.string d') ∧ Below w1.heap.size w1 w')
      ((refine (fun h => ⟨Below.cell_of h fc0, Below.cell_of h fc1, Below.cell_of h gc0, Below.cell_of h gc1, h⟩) (?_ : Below w1.heap.size w1 _); (repeat' (first | with_reducible exact hq2 | with_reducible exact hq1 | with_reducible exact hq0 | with_reducible exact Below.refl _ _ | with_reducible refine belA ?_ _ | with_reducible refine Below.drew ?_ | with_reducible refine Below.store3 ?_ (by have := hq1.size; first | exact this | exact Nat.le_refl _ | exact Nat.le_succ _ | omega | (simp; omega)) _ _ _))))
      (first
        | (go_at_call 37; (with_reducible refine (K1.out _ (by first | assumption | exact Below.alloc (by assumption) (Below.size (by assumption)) _ | exact Below.drew (Below.alloc (Below.refl _ _) (Nat.le_refl _) _) | exact Below.drew (Below.alloc (Below.alloc (Below.refl _ _) (Nat.le_refl _) _) (by simp) _))).mono ?_); rintro e w5 ⟨⟨b1, A1, n1, c1, A2, n2, c2, rfl, hp⟩, hq1, hb1⟩; obtain ⟨hcA, hfA⟩ := bcell hb1; have hBk1 := Lib.hid (fun g cs h => Blk.below (g := g) (cs := cs) (t := 53) h hb1 (Blk.lt h)); (try have hy1 : w1.heap.size < w5.heap.size := (by have h := hb1.size; (try simp at h); omega)); (try have hy1' : w1.heap.size + 1 < w5.heap.size := (by have h := hb1.size; (try simp at h); omega)))
        | (go_at_call 37; (with_reducible refine (K2.out _ (by first | assumption | exact Below.alloc (by assumption) (Below.size (by assumption)) _ | exact Below.alloc (Below.alloc (by assumption) (Below.size (by assumption)) _) (by simp; exact Nat.le_succ_of_le (Below.size (by assumption))) _)).mono ?_); rintro e w6 ⟨⟨b2, A3, n3, c3, A4, n4, c4, rfl, hq⟩, hq2, hb2⟩; obtain ⟨hcB, hfB⟩ := bcell hb2; have hBk2 := Lib.hid (fun g cs h => Blk.below (g := g) (cs := cs) (t := 53) h hb2 (Blk.lt h)); (try have hy2 : w1.heap.size < w6.heap.size := (by have h := hb2.size; (try simp at h); omega)); (try have hy2' : w1.heap.size + 1 < w6.heap.size := (by have h := hb2.size; (try simp at h); omega)); (try have hy3 : w5.heap.size < w6.heap.size := (by have h := hb2.size; (try simp at h); omega)); (try have hy3' : w5.heap.size + 1 < w6.heap.size := (by have h := hb2.size; (try simp at h); omega)); (try have hy4 : w1.heap.size < w5.heap.size + 1 := (by omega));  (try have hy5 : w1.heap.size + 1 < w5.heap.size + 1 := (by omega))))
    all_goals
      go_wp2_with (fail)
      go_meet
      first
        | ((with_reducible refine TwoI.k22 ?_ hq hq2); (first | with_reducible exact hp.below hb2 | (with_reducible refine hp.below (belT1 _ hb2)) | (with_reducible refine hp.below (belT2 _ _ hb2))))
        | ((with_reducible refine TwoI.k22' ?_ hq hq2); (first | with_reducible exact hp.below hb2 | (with_reducible refine hp.below (belT1 _ hb2)) | (with_reducible refine hp.below (belT2 _ _ hb2))))
        | ((with_reducible refine TwoI.k02 ?_ hq hq2 ?_ ?_); (· (first | with_reducible exact hp.below hb2 | (with_reducible refine hp.below (belT1 _ hb2)) | (with_reducible refine hp.below (belT2 _ _ hb2)))); (· (repeat' (first | with_reducible exact Blk.new _ _ _ | with_reducible exact Blk.new1 _ _ _ _ | with_reducible refine Blk.alloc ?_ _ | with_reducible refine Blk.drew ?_ | with_reducible refine hBk2.out _ _ ?_ | with_reducible refine hBk1.out _ _ ?_))); (· (first | exact hq1.size | exact Nat.le_refl _ | exact Nat.le_succ _ | (have := hq1.size; omega))))
        | ((with_reducible refine TwoI.k20 ?_ hq hq2 ?_ ?_); (· (first | with_reducible exact hp.below hb2 | (with_reducible refine hp.below (belT1 _ hb2)) | (with_reducible refine hp.below (belT2 _ _ hb2)))); (· (repeat' (first | with_reducible exact Blk.new _ _ _ | with_reducible exact Blk.new1 _ _ _ _ | with_reducible refine Blk.alloc ?_ _ | with_reducible refine Blk.drew ?_ | with_reducible refine hBk2.out _ _ ?_ | with_reducible refine hBk1.out _ _ ?_))); (· (first | exact hq1.size | exact Nat.le_refl _ | exact Nat.le_succ _ | (have := hq1.size; omega))))
        | ((with_reducible refine TwoI.k00 ?_ hq hq2 ?_ ?_ ?_ ?_ ?_); (· (first | with_reducible exact hp.below hb2 | (with_reducible refine hp.below (belT1 _ hb2)) | (with_reducible refine hp.below (belT2 _ _ hb2)))); (· (repeat' (first | with_reducible exact Blk.new _ _ _ | with_reducible exact Blk.new1 _ _ _ _ | with_reducible refine Blk.alloc ?_ _ | with_reducible refine Blk.drew ?_ | with_reducible refine hBk2.out _ _ ?_ | with_reducible refine hBk1.out _ _ ?_))); (· (first | exact hq1.size | exact Nat.le_refl _ | exact Nat.le_succ _ | (have := hq1.size; omega))); (· (repeat' (first | with_reducible exact Blk.new _ _ _ | with_reducible exact Blk.new1 _ _ _ _ | with_reducible refine Blk.alloc ?_ _ | with_reducible refine Blk.drew ?_ | with_reducible refine hBk2.out _ _ ?_ | with_reducible refine hBk1.out _ _ ?_))); (· (first | exact hq1.size | exact Nat.le_refl _ | exact Nat.le_succ _ | (have := hq1.size; omega))); (· (have := hq1.size; omega)))
        
  case rest =>
  obtain ⟨g7, g8, b1, A1, n1, c1, A2, n2, c2, b2, A3, n3, c3, A4, n4, c4, rfl, rfl, F7, F8, hbx⟩ := hcut.ex
  clear K1 K2 hq0 fc0 fc1 gc0 gc1 hcut
  have B2 := B2.below hbx B2.lt
  have hbw := hbw.trans (hbx.mono hbw.size)
  clear hbx B0 B1
  obtain ⟨B7, F7⟩ := F7
  obtain ⟨B8, F8⟩ := F8
  have rc0 : wc.cell? ⟨w.heap.size + 2, 0, none⟩ = some (.string ⟨#[]⟩) := B2.cell 0
  have rz0 : wc.frozen? ⟨w.heap.size + 2, 0, none⟩ = false := B2.frozen 0
  have rc1 : wc.cell? ⟨w.heap.size + 2, 1, none⟩ = some (.string ⟨#[]⟩) := B2.cell 1
  have rz1 : wc.frozen? ⟨w.heap.size + 2, 1, none⟩ = false := B2.frozen 1
  have uc0 : wc.cell? ⟨g7, 0, none⟩ = some (.bool b1) := B7.cell 0
  have uc1 : wc.cell? ⟨g7, 1, none⟩ = some (.slice A1 n1 c1) := B7.cell 1
  have uc2 : wc.cell? ⟨g7, 2, none⟩ = some (.slice A2 n2 c2) := B7.cell 2
  have vc0 : wc.cell? ⟨g8, 0, none⟩ = some (.bool b2) := B8.cell 0
  have vc1 : wc.cell? ⟨g8, 1, none⟩ = some (.slice A3 n3 c3) := B8.cell 1
  have vc2 : wc.cell? ⟨g8, 2, none⟩ = some (.slice A4 n4 c4) := B8.cell 2
  obtain ⟨x1, hx1⟩ : ∃ x, digVal (cutN n.data.toList).1 = x := ⟨_, rfl⟩
  obtain ⟨y1, hy1⟩ : ∃ x, digVal d.data.toList = x := ⟨_, rfl⟩
  obtain ⟨x2, hx2⟩ : ∃ x, digVal (cutN n'.data.toList).1 = x := ⟨_, rfl⟩
  obtain ⟨y2, hy2⟩ : ∃ x, digVal d'.data.toList = x := ⟨_, rfl⟩
  obtain ⟨e1, g1, g2, g3⟩ := F7.parts
  obtain ⟨e2, g4, g5, g6⟩ := F8.parts
  rw [hx1] at g1
  rw [hy1] at g2 g3
  rw [hx2] at g4
  rw [hy2] at g5 g6
  have HQ := Lib.hid (show ratQ b1 x1 y1 + ratQ b2 x2 y2 = valR (rx n d) + valR (rx n' d') by
    unfold valR
    show _ = ratQ (cutN n.data.toList).2 (digVal (cutN n.data.toList).1) (digVal d.data.toList) + ratQ (cutN n'.data.toList).2 (digVal (cutN n'.data.toList).1) (digVal d'.data.toList)
    rw [hx1, hy1, hx2, hy2, ← e1, ← e2])
  have hyy : 0 < y1 * y2 := Nat.mul_pos g3 g6
  have HG1 := Lib.hid g1
  have HG2 := Lib.hid g2
  have HG4 := Lib.hid g4
  have HG5 := Lib.hid g5
  clear g1 g2 g4 g5 e1 e2 hx1 hy1 hx2 hy2 F7 F8
  have HT2 := Lib.hid (HT.out.below hbw)
  have hne7 : g7 ≠ w.heap.size + 2 := B7.other B2 (by decide)
  have hne8 : g8 ≠ w.heap.size + 2 := B8.other B2 (by decide)
  go_wp2_with fail
  refine (rtimes_rep wc 223 223 _ _ _ _ HG2.out HG5.out (by omega) (by omega)).mono ?_
  rintro e w2 ⟨hv, hb2⟩
  obtain ⟨Av, nv, cv, rfl, hv2⟩ := sl_formI hv
  have HV := Lib.hid hv2
  have HG1 := Lib.hid (HG1.out.below hb2)
  have HG2 := Lib.hid (HG2.out.below hb2)
  have HG4 := Lib.hid (HG4.out.below hb2)
  have HG5 := Lib.hid (HG5.out.below hb2)
  have HT2 := Lib.hid (HT2.out.below hb2)
  have B2 := B2.below hb2 B2.lt
  have B7 := B7.below hb2 B7.lt
  have B8 := B8.below hb2 B8.lt
  have hbw := hbw.trans (hb2.mono hbw.size)
  clear hv hv2 hb2 rc0 rc1 rz0 rz1 uc0 uc1 uc2 vc0 vc1 vc2
  have uc0 : w2.cell? ⟨g7, 0, none⟩ = some (.bool b1) := B7.cell 0
  have uc1 : w2.cell? ⟨g7, 1, none⟩ = some (.slice A1 n1 c1) := B7.cell 1
  have uc2 : w2.cell? ⟨g7, 2, none⟩ = some (.slice A2 n2 c2) := B7.cell 2
  have vc0 : w2.cell? ⟨g8, 0, none⟩ = some (.bool b2) := B8.cell 0
  have vc1 : w2.cell? ⟨g8, 1, none⟩ = some (.slice A3 n3 c3) := B8.cell 1
  have vc2 : w2.cell? ⟨g8, 2, none⟩ = some (.slice A4 n4 c4) := B8.cell 2
  have K1 := Lib.hid (K_of (fun w' (hb : Below w2.heap.size w2 w') => (rtimes_rep w' 223 223 _ _ _ _ (HG1.out.below hb) (HG5.out.below hb) (by omega) (by omega)).mono fun _ _ ⟨h, hb⟩ => ⟨sl_formI h, hb⟩))
  have K2 := Lib.hid (K_of (fun w' (hb : Below w2.heap.size w2 w') => (rtimes_rep w' 223 223 _ _ _ _ (HG4.out.below hb) (HG2.out.below hb) (by omega) (by omega)).mono fun _ _ ⟨h, hb⟩ => ⟨sl_formI h, hb⟩))
  have hq0 : Below w2.heap.size w2 w2.drew := (Below.refl _ _).drew
  go_upto_region 5 with (fail)
  go_region_held3 (fun w' => w'.cell? ⟨g7, 1, none⟩ = some (.slice A1 n1 c1) ∧ w'.cell? ⟨g7, 2, none⟩ = some (.slice A2 n2 c2) ∧ w'.cell? ⟨g8, 1, none⟩ = some (.slice A3 n3 c3) ∧ w'.cell? ⟨g8, 2, none⟩ = some (.slice A4 n4 c4) ∧ Below w2.heap.size w2 w')
    (first | exact ⟨Below.cell_of hq2 uc1, Below.cell_of hq2 uc2, Below.cell_of hq2 vc1, Below.cell_of hq2 vc2, hq2⟩ | exact ⟨Below.cell_of hq1 uc1, Below.cell_of hq1 uc2, Below.cell_of hq1 vc1, Below.cell_of hq1 vc2, hq1⟩ | exact ⟨Below.cell_of hq0 uc1, Below.cell_of hq0 uc2, Below.cell_of hq0 vc1, Below.cell_of hq0 vc2, hq0⟩)
    (first
      | (go_at_call 38; (with_reducible refine (K1.out _ (by assumption)).mono ?_); rintro e w5 ⟨⟨Ap, np, cp, rfl, hp⟩, hq1, hb4⟩)
      | (go_at_call 38; (with_reducible refine (K2.out _ (by assumption)).mono ?_); rintro e w6 ⟨⟨Aq, nq, cq, rfl, hq⟩, hq2, hb5⟩))
  have HP := Lib.hid (hp.below hb5)
  have HQQ := Lib.hid hq
  have HV := Lib.hid (HV.out.below hq2)
  have HT2 := Lib.hid (HT2.out.below hq2)
  have B2 := B2.below hq2 B2.lt
  have B7 := B7.below hq2 B7.lt
  have B8 := B8.below hq2 B8.lt
  have hbw := hbw.trans (hq2.mono hbw.size)
  clear hp hq K1 K2 hq0 hq1 hq2 hb4 hb5 HG1 HG2 HG4 HG5 uc0 uc1 uc2 vc0 vc1 vc2
  have rc0 : w6.cell? ⟨w.heap.size + 2, 0, none⟩ = some (.string ⟨#[]⟩) := B2.cell 0
  have rz0 : w6.frozen? ⟨w.heap.size + 2, 0, none⟩ = false := B2.frozen 0
  have rc1 : w6.cell? ⟨w.heap.size + 2, 1, none⟩ = some (.string ⟨#[]⟩) := B2.cell 1
  have rz1 : w6.frozen? ⟨w.heap.size + 2, 1, none⟩ = false := B2.frozen 1
  have uc0 : w6.cell? ⟨g7, 0, none⟩ = some (.bool b1) := B7.cell 0
  have uc1 : w6.cell? ⟨g7, 1, none⟩ = some (.slice A1 n1 c1) := B7.cell 1
  have uc2 : w6.cell? ⟨g7, 2, none⟩ = some (.slice A2 n2 c2) := B7.cell 2
  have vc0 : w6.cell? ⟨g8, 0, none⟩ = some (.bool b2) := B8.cell 0
  have vc1 : w6.cell? ⟨g8, 1, none⟩ = some (.slice A3 n3 c3) := B8.cell 1
  have vc2 : w6.cell? ⟨g8, 2, none⟩ = some (.slice A4 n4 c4) := B8.cell 2
  obtain ⟨s, hs⟩ : ∃ s, (b1 == b2) = s := ⟨_, rfl⟩
  have HB12 := Lib.hid (show s = true ↔ b1 = b2 by rw [← hs]; simp)
  have HX1 := Lib.hid (ratQ_cross b1 x1 y1 y2 g3 g6)
  have HX2 := Lib.hid (show ratQ b2 (x2 * y1) (y1 * y2) = ratQ b2 x2 y2 by rw [Nat.mul_comm y1 y2]; exact ratQ_cross _ _ _ _ g6 g3)
  obtain ⟨P, hP⟩ : ∃ P, x1 * y2 = P := ⟨_, rfl⟩
  obtain ⟨Q, hQ⟩ : ∃ Q, x2 * y1 = Q := ⟨_, rfl⟩
  obtain ⟨D, hD⟩ : ∃ D, y1 * y2 = D := ⟨_, rfl⟩
  rw [hP, hD] at HX1
  rw [hQ, hD] at HX2
  rw [hP] at HP
  rw [hQ] at HQQ
  rw [hD] at HV hyy
  clear hP hQ hD
  have HP := Lib.hid (HP.out.mono (show 223 + 223 + 1 ≤ 447 by omega))
  have HQQ := Lib.hid (HQQ.out.mono (show 223 + 223 + 1 ≤ 447 by omega))
  have HV := Lib.hid (HV.out.mono (show 223 + 223 + 1 ≤ 448 by omega))
  cases s
  · have HNB := Lib.hid (show b2 = !b1 by
      have := HB12.out
      cases b1 <;> cases b2 <;> simp at this ⊢)
    by_cases hle : Q ≤ P
    · have ho : decide (0 ≤ ordI (P : Int) (Q : Int)) = true := by
        unfold ordI
        rw [if_neg (by omega)]
        split <;> decide
      go_wp2_with fail
      refine (rorder_rep w6 447 447 _ _ _ _ HP.out HQQ.out (by omega) (by omega)).mono ?_
      rintro e w7 ⟨rfl, hb7⟩
      have HP := Lib.hid (HP.out.below hb7)
      have HQQ := Lib.hid (HQQ.out.below hb7)
      have HV := Lib.hid (HV.out.below hb7)
      have HT2 := Lib.hid (HT2.out.below hb7)
      have B2 := B2.below hb7 B2.lt
      have B7 := B7.below hb7 B7.lt
      have B8 := B8.below hb7 B8.lt
      have hbw := hbw.trans (hb7.mono hbw.size)
      have uc0 := Below.cell_of hb7 uc0
      have vc0 := Below.cell_of hb7 vc0
      clear hb7 rc0 rc1 rz0 rz1 uc1 uc2 vc1 vc2
      have rc0 : w7.cell? ⟨w.heap.size + 2, 0, none⟩ = some (.string ⟨#[]⟩) := B2.cell 0
      have rz0 : w7.frozen? ⟨w.heap.size + 2, 0, none⟩ = false := B2.frozen 0
      have rc1 : w7.cell? ⟨w.heap.size + 2, 1, none⟩ = some (.string ⟨#[]⟩) := B2.cell 1
      have rz1 : w7.frozen? ⟨w.heap.size + 2, 1, none⟩ = false := B2.frozen 1
      have HS := Lib.hid (show ratQ b1 (P - Q) D = valR (rx n d) + valR (rx n' d') by
              have hnb := HNB.out
              rw [← ratQ_diff _ _ _ _ hyy hle, HX1.out, ← hnb, HX2.out]; exact HQ.out)
      have K1 := Lib.hid (K_of (fun w' (hb : Below w7.heap.size w7 w') => (rminus_rep w' 447 447 _ _ _ _ (HP.out.below hb) (HQQ.out.below hb) (by omega) hle).mono fun _ _ ⟨h, hb⟩ => ⟨sl_to (L' := 448) h (by omega), hb⟩))
      have hq0 : Below w7.heap.size w7 w7.drew := (Below.refl _ _).drew
      go_upto_region 10 with (fail)
      clear hs ho
      go_region_held3 (fun w' => w'.cell? ⟨g7, 0, none⟩ = some (.bool b1) ∧ Below w.heap.size w w')
        (first | exact ⟨Below.cell_of hq3 uc0, hbw.trans (hq3.mono hbw.size)⟩ | exact ⟨Below.cell_of hq1 uc0, hbw.trans (hq1.mono hbw.size)⟩ | exact ⟨Below.cell_of hq0 uc0, hbw.trans (hq0.mono hbw.size)⟩ | exact ⟨(C3.far2 hne7 _ _).cell 0, (hbw.trans (hq3.mono hbw.size)).store2 (by omega) _ _⟩)
        (first
          | (go_at_call 41; (with_reducible refine (K1.out _ (by assumption)).mono ?_); rintro e w' ⟨⟨As, ns, cs, rfl, hp⟩, hq1, hb4⟩)
          | (go_at_call 26; refine (shut_q _ 448 (P - Q) D _ b1 _ ⟨_, _, _, _, _, _, rfl, hp, HV.out.below hq1, hyy⟩ HS.out (by omega) (HT2.out.below hq1)).mono ?_; rintro e w' ⟨⟨S1, S2, k, rfl, hout⟩, hb6⟩; have hq3 := hq1.trans (hb6.mono hq1.size); have C2 := B2.below hq3 B2.lt; have C3 := B7.below hq3 B7.lt; have rc0 := Below.cell_of hq3 rc0; have rc1 := Below.cell_of hq3 rc1; have rz0 := C2.frozen 0; have rz1 := C2.frozen 1; have HO := Lib.hid hout; clear hout))
      all_goals
        go_wp2_with (fail)
        have hbw := hbw.trans (hq3.mono hbw.size)
        obtain ⟨W9, hW9⟩ : ∃ W9, W9 = (w'.setCell ⟨w.heap.size + 2, 0, none⟩ (.string S1)).setCell ⟨w.heap.size + 2, 1, none⟩ (.string S2) := ⟨_, rfl⟩
        have B9 : Blk W9 (w.heap.size + 2) 23 #[.string S1, .string S2] := hW9 ▸ C2.store2 _ _
        have hbw9 : Below w.heap.size w W9 := hW9 ▸ hbw.store2 (by omega) _ _
        rw [← hW9]
        clear hW9
        have qc0 : W9.cell? ⟨w.heap.size + 2, 0, none⟩ = some (.string S1) := B9.cell 0
        have qc1 : W9.cell? ⟨w.heap.size + 2, 1, none⟩ = some (.string S2) := B9.cell 1
        refine bodyPost_ret (v := .tuple #[.agg #[.string S1, .string S2], .int .i64 k]) (by simp [results, Tryz.results10, go_sem, qc0, qc1]) rfl ⟨ret_val (by rw [HE.out, HO.out]), hbw9⟩
    · have ho : decide (0 ≤ ordI (P : Int) (Q : Int)) = false := by
        unfold ordI
        rw [if_pos (by omega)]
        decide
      go_wp2_with fail
      refine (rorder_rep w6 447 447 _ _ _ _ HP.out HQQ.out (by omega) (by omega)).mono ?_
      rintro e w7 ⟨rfl, hb7⟩
      have HP := Lib.hid (HP.out.below hb7)
      have HQQ := Lib.hid (HQQ.out.below hb7)
      have HV := Lib.hid (HV.out.below hb7)
      have HT2 := Lib.hid (HT2.out.below hb7)
      have B2 := B2.below hb7 B2.lt
      have B7 := B7.below hb7 B7.lt
      have B8 := B8.below hb7 B8.lt
      have hbw := hbw.trans (hb7.mono hbw.size)
      have uc0 := Below.cell_of hb7 uc0
      have vc0 := Below.cell_of hb7 vc0
      clear hb7 rc0 rc1 rz0 rz1 uc1 uc2 vc1 vc2
      have rc0 : w7.cell? ⟨w.heap.size + 2, 0, none⟩ = some (.string ⟨#[]⟩) := B2.cell 0
      have rz0 : w7.frozen? ⟨w.heap.size + 2, 0, none⟩ = false := B2.frozen 0
      have rc1 : w7.cell? ⟨w.heap.size + 2, 1, none⟩ = some (.string ⟨#[]⟩) := B2.cell 1
      have rz1 : w7.frozen? ⟨w.heap.size + 2, 1, none⟩ = false := B2.frozen 1
      have HS := Lib.hid (show ratQ b2 (Q - P) D = valR (rx n d) + valR (rx n' d') by
              have hnb := HNB.out
              have hnb1 : b1 = !b2 := by rw [hnb]; simp
              rw [← ratQ_diff _ _ _ _ hyy (by omega), HX2.out, ← hnb1, HX1.out, Rat.add_comm]; exact HQ.out)
      have K1 := Lib.hid (K_of (fun w' (hb : Below w7.heap.size w7 w') => (rminus_rep w' 447 447 _ _ _ _ (HQQ.out.below hb) (HP.out.below hb) (by omega) (by omega)).mono fun _ _ ⟨h, hb⟩ => ⟨sl_to (L' := 448) h (by omega), hb⟩))
      have hq0 : Below w7.heap.size w7 w7.drew := (Below.refl _ _).drew
      go_upto_region 11 with (fail)
      clear hs ho
      go_region_held3 (fun w' => w'.cell? ⟨g8, 0, none⟩ = some (.bool b2) ∧ Below w.heap.size w w')
        (first | exact ⟨Below.cell_of hq3 vc0, hbw.trans (hq3.mono hbw.size)⟩ | exact ⟨Below.cell_of hq1 vc0, hbw.trans (hq1.mono hbw.size)⟩ | exact ⟨Below.cell_of hq0 vc0, hbw.trans (hq0.mono hbw.size)⟩ | exact ⟨(C3.far2 hne8 _ _).cell 0, (hbw.trans (hq3.mono hbw.size)).store2 (by omega) _ _⟩)
        (first
          | (go_at_call 41; (with_reducible refine (K1.out _ (by assumption)).mono ?_); rintro e w' ⟨⟨As, ns, cs, rfl, hp⟩, hq1, hb4⟩)
          | (go_at_call 26; refine (shut_q _ 448 (Q - P) D _ b2 _ ⟨_, _, _, _, _, _, rfl, hp, HV.out.below hq1, hyy⟩ HS.out (by omega) (HT2.out.below hq1)).mono ?_; rintro e w' ⟨⟨S1, S2, k, rfl, hout⟩, hb6⟩; have hq3 := hq1.trans (hb6.mono hq1.size); have C2 := B2.below hq3 B2.lt; have C3 := B8.below hq3 B8.lt; have rc0 := Below.cell_of hq3 rc0; have rc1 := Below.cell_of hq3 rc1; have rz0 := C2.frozen 0; have rz1 := C2.frozen 1; have HO := Lib.hid hout; clear hout))
      all_goals
        go_wp2_with (fail)
        have hbw := hbw.trans (hq3.mono hbw.size)
        obtain ⟨W9, hW9⟩ : ∃ W9, W9 = (w'.setCell ⟨w.heap.size + 2, 0, none⟩ (.string S1)).setCell ⟨w.heap.size + 2, 1, none⟩ (.string S2) := ⟨_, rfl⟩
        have B9 : Blk W9 (w.heap.size + 2) 23 #[.string S1, .string S2] := hW9 ▸ C2.store2 _ _
        have hbw9 : Below w.heap.size w W9 := hW9 ▸ hbw.store2 (by omega) _ _
        rw [← hW9]
        clear hW9
        have qc0 : W9.cell? ⟨w.heap.size + 2, 0, none⟩ = some (.string S1) := B9.cell 0
        have qc1 : W9.cell? ⟨w.heap.size + 2, 1, none⟩ = some (.string S2) := B9.cell 1
        refine bodyPost_ret (v := .tuple #[.agg #[.string S1, .string S2], .int .i64 k]) (by simp [results, Tryz.results10, go_sem, qc0, qc1]) rfl ⟨ret_val (by rw [HE.out, HO.out]), hbw9⟩
  · have HNB := Lib.hid (HB12.out.1 rfl)
    have HS := Lib.hid (show ratQ b1 (P + Q) D = valR (rx n d) + valR (rx n' d') by
            have hnb := HNB.out
            rw [← ratQ_same _ _ _ _ hyy, HX1.out]; rw [← hnb] at HX2; rw [HX2.out, hnb]; rw [hnb] at HQ; exact HQ.out)
    have K1 := Lib.hid (K_of (fun w' (hb : Below w6.heap.size w6 w') => (rplus_rep w' 447 447 _ _ _ _ (HP.out.below hb) (HQQ.out.below hb) (by omega) (by omega)).mono fun _ _ ⟨h, hb⟩ => ⟨sl_to (L' := 448) h (by omega), hb⟩))
    have hq0 : Below w6.heap.size w6 w6.drew := (Below.refl _ _).drew
    go_upto_region 8 with (fail)
    clear hs
    go_region_held3 (fun w' => w'.cell? ⟨g7, 0, none⟩ = some (.bool b1) ∧ Below w.heap.size w w')
      (first | exact ⟨Below.cell_of hq3 uc0, hbw.trans (hq3.mono hbw.size)⟩ | exact ⟨Below.cell_of hq1 uc0, hbw.trans (hq1.mono hbw.size)⟩ | exact ⟨Below.cell_of hq0 uc0, hbw.trans (hq0.mono hbw.size)⟩ | exact ⟨(C3.far2 hne7 _ _).cell 0, (hbw.trans (hq3.mono hbw.size)).store2 (by omega) _ _⟩)
      (first
        | (go_at_call 39; (with_reducible refine (K1.out _ (by assumption)).mono ?_); rintro e w' ⟨⟨As, ns, cs, rfl, hp⟩, hq1, hb4⟩)
        | (go_at_call 26; refine (shut_q _ 448 (P + Q) D _ b1 _ ⟨_, _, _, _, _, _, rfl, hp, HV.out.below hq1, hyy⟩ HS.out (by omega) (HT2.out.below hq1)).mono ?_; rintro e w' ⟨⟨S1, S2, k, rfl, hout⟩, hb6⟩; have hq3 := hq1.trans (hb6.mono hq1.size); have C2 := B2.below hq3 B2.lt; have C3 := B7.below hq3 B7.lt; have rc0 := Below.cell_of hq3 rc0; have rc1 := Below.cell_of hq3 rc1; have rz0 := C2.frozen 0; have rz1 := C2.frozen 1; have HO := Lib.hid hout; clear hout))
    all_goals
      go_wp2_with (fail)
      have hbw := hbw.trans (hq3.mono hbw.size)
      obtain ⟨W9, hW9⟩ : ∃ W9, W9 = (w'.setCell ⟨w.heap.size + 2, 0, none⟩ (.string S1)).setCell ⟨w.heap.size + 2, 1, none⟩ (.string S2) := ⟨_, rfl⟩
      have B9 : Blk W9 (w.heap.size + 2) 23 #[.string S1, .string S2] := hW9 ▸ C2.store2 _ _
      have hbw9 : Below w.heap.size w W9 := hW9 ▸ hbw.store2 (by omega) _ _
      rw [← hW9]
      clear hW9
      have qc0 : W9.cell? ⟨w.heap.size + 2, 0, none⟩ = some (.string S1) := B9.cell 0
      have qc1 : W9.cell? ⟨w.heap.size + 2, 1, none⟩ = some (.string S2) := B9.cell 1
      refine bodyPost_ret (v := .tuple #[.agg #[.string S1, .string S2], .int .i64 k]) (by simp [results, Tryz.results10, go_sem, qc0, qc1]) rfl ⟨ret_val (by rw [HE.out, HO.out]), hbw9⟩



end Go.Proofs.YtmpelpmhbadjoaaGreatDoor
