/- The walks of Inverse and Order. -/
import Derived.Test.YtmpelpmhbadjoaaGreatDoorProd
namespace Go.Proofs.YtmpelpmhbadjoaaGreatDoor
open Go.RowKit Limb Dig Rtx

def ordV (p : Int × Nat) : Value := .tuple #[.int .i64 p.1, .int .i64 (p.2 : Nat)]
theorem ratQ_sign (b : Bool) (x y : Nat) (hy : 0 < y) : (x = 0 → ratQ b x y = 0) ∧ (0 < x → b = true → ratQ b x y < 0) ∧ (0 < x → b = false → 0 < ratQ b x y) := by
  obtain ⟨h1, h2, h3⟩ := ratQ_low b x y hy
  have hz := ratQ_zero b x y hy
  refine ⟨fun h => hz.2 h, fun h hb => ?_, fun h hb => ?_⟩
  · have h4 := h3.2 ⟨hb, h⟩
    have h5 : ¬ 0 ≤ ratQ b x y := fun h' => by have := Rat.num_nonneg.2 h'; omega
    grind
  · have h4 : ¬ (ratQ b x y).num < 0 := fun h' => by rw [hb] at h3; exact absurd (h3.1 (hb ▸ h')).1 (by decide)
    have h5 : (ratQ b x y).num ≠ 0 := fun h' => by have := hz.1 (Rat.num_eq_zero.1 h'); omega
    have h6 : 0 ≤ ratQ b x y := Rat.num_nonneg.1 (by omega)
    have h7 : ratQ b x y ≠ 0 := fun h' => h5 (Rat.num_eq_zero.2 h')
    grind
set_option maxHeartbeats 2000000 in
set_option maxRecDepth 100000 in
theorem Inv_any (n d : ByteArray) (w : World) (hn : n.size ≤ maxLen) (hd : d.size ≤ maxLen) (htab : Tab w) :
    Calls Tryz.prog 13 #[.agg #[.string n, .string d]] w fun e w' => e = .returned (outV (invR (rx n d))) ∧ Below w.heap.size w w' := by
  have HT := Lib.hid htab
  clear htab
  go_enter Tryz.func13, Tryz.ntmps13
  go_wp2_with fail
  obtain ⟨W, hW⟩ : ∃ W, W = ((w.alloc (.cells #[.string n, .string d] 23 (0, 0))).alloc (.cells #[.string ⟨#[]⟩, .string ⟨#[]⟩] 23 (0, 0))) := ⟨_, rfl⟩
  have hbw : Below w.heap.size w W := by rw [hW]; exact (((Below.refl _ w).alloc (Nat.le_refl _) _).alloc (by simp) _)
  have B0 : Blk W (w.heap.size) 23 #[.string n, .string d] := by
    rw [hW]
    have := Blk.new w 23 #[.string n, .string d]
    have := this.alloc (.cells #[.string ⟨#[]⟩, .string ⟨#[]⟩] 23 (0, 0))
    exact this
  have B1 : Blk W (w.heap.size + 1) 23 #[.string ⟨#[]⟩, .string ⟨#[]⟩] := by
    rw [hW]
    have := Blk.new (w.alloc (.cells #[.string n, .string d] 23 (0, 0))) 23 #[.string ⟨#[]⟩, .string ⟨#[]⟩]
    rwa [World.size_alloc] at this
  have hsz : W.heap.size = w.heap.size + 2 := by rw [hW]; simp
  rw [← hW]
  clear hW
  refine (fractionOf_any n d W hn hd).mono ?_
  rintro e w1 ⟨⟨u, rfl, hu⟩, hb1⟩
  obtain ⟨bu, A1, n1, c1, A2, n2, c2, rfl⟩ := hu.form
  have HU := Lib.hid hu
  clear hu
  have hbw := hbw.trans (hb1.mono hbw.size)
  have hs1 := hb1.size
  have B1 := B1.below hb1 B1.lt
  obtain ⟨f, hf⟩ : ∃ f, fltR (rx n d) = f := ⟨_, rfl⟩
  have HF := Lib.hid hf
  rw [hf]
  clear hf hb1
  go_upto_if 12 with (fail)
  obtain ⟨W2, hW2⟩ : ∃ W2, W2 = w1.alloc (.cells #[.bool bu, .slice A1 n1 c1, .slice A2 n2 c2] 47 (0, 0)) := ⟨_, rfl⟩
  have hb2 : Below w1.heap.size w1 W2 := hW2 ▸ (Below.refl _ w1).alloc (Nat.le_refl _) _
  have B3 : Blk W2 w1.heap.size 47 #[.bool bu, .slice A1 n1 c1, .slice A2 n2 c2] := by
    rw [hW2]
    exact Blk.new w1 47 #[.bool bu, .slice A1 n1 c1, .slice A2 n2 c2]
  rw [← hW2]
  clear hW2
  have hbw := hbw.trans (hb2.mono hbw.size)
  have B1 := B1.below hb2 B1.lt
  have rc0 : W2.cell? ⟨w.heap.size + 1, 0, none⟩ = some (.string ⟨#[]⟩) := B1.cell 0
  have rz0 : W2.frozen? ⟨w.heap.size + 1, 0, none⟩ = false := B1.frozen 0
  have rc1 : W2.cell? ⟨w.heap.size + 1, 1, none⟩ = some (.string ⟨#[]⟩) := B1.cell 1
  have rz1 : W2.frozen? ⟨w.heap.size + 1, 1, none⟩ = false := B1.frozen 1
  have uc0 : W2.cell? ⟨w1.heap.size, 0, none⟩ = some (.bool bu) := B3.cell 0
  have uc1 : W2.cell? ⟨w1.heap.size, 1, none⟩ = some (.slice A1 n1 c1) := B3.cell 1
  have uc2 : W2.cell? ⟨w1.heap.size, 2, none⟩ = some (.slice A2 n2 c2) := B3.cell 2
  by_cases h0 : f = 0
  rotate_left
  · have hne : (((f : Nat) : Int) != 0) = true := by simp; omega
    have HE := Lib.hid (show outV (invR (rx n d)) = .tuple #[.agg #[.string ⟨#[]⟩, .string ⟨#[]⟩], .int .i64 (f : Nat)] by
      unfold invR
      rw [if_pos (by rw [HF.out]; exact h0), HF.out]; rfl)
    go_wp2
    obtain ⟨W9, hW9⟩ : ∃ W9, W9 = (W2.setCell ⟨w.heap.size + 1, 0, none⟩ (.string ⟨#[]⟩)).setCell ⟨w.heap.size + 1, 1, none⟩ (.string ⟨#[]⟩) := ⟨_, rfl⟩
    have B9 : Blk W9 (w.heap.size + 1) 23 #[.string ⟨#[]⟩, .string ⟨#[]⟩] := hW9 ▸ B1.store2 _ _
    have hbw9 : Below w.heap.size w W9 := hW9 ▸ hbw.store2 (by omega) _ _
    rw [← hW9]
    clear hW9
    have qc0 : W9.cell? ⟨w.heap.size + 1, 0, none⟩ = some (.string ⟨#[]⟩) := B9.cell 0
    have qc1 : W9.cell? ⟨w.heap.size + 1, 1, none⟩ = some (.string ⟨#[]⟩) := B9.cell 1
    refine bodyPost_ret (v := .tuple #[.agg #[.string ⟨#[]⟩, .string ⟨#[]⟩], .int .i64 ((f : Nat) : Int)]) (by simp [results, Tryz.results13, go_sem, qc0, qc1]) rfl ⟨ret_val (HE.out.symm), hbw9⟩
  subst h0
  obtain ⟨x1, hx1⟩ : ∃ x, digVal (cutN (rx n d).n).1 = x := ⟨_, rfl⟩
  obtain ⟨y1, hy1⟩ : ∃ x, digVal (rx n d).d = x := ⟨_, rfl⟩
  obtain ⟨e1, g1, g2, g3⟩ := ((HU.out.below hb2).ok HF.out).parts
  rw [hx1] at g1
  rw [hy1] at g2 g3
  have HV := Lib.hid (show valR (rx n d) = ratQ bu x1 y1 by unfold valR; rw [hx1, hy1, ← e1])
  have HG1 := Lib.hid g1
  have HG2 := Lib.hid g2
  obtain ⟨An, nn, cn, en, hnn, -⟩ := g1.form
  injection en with en1 en2 en3
  subst en1 en2 en3
  clear g1 g2 e1 hx1 hy1
  by_cases hz : n1 = 0
  · have HE := Lib.hid (show outV (invR (rx n d)) = .tuple #[.agg #[.string ⟨#[]⟩, .string ⟨#[]⟩], .int .i64 19] by
      unfold invR
      rw [if_neg (by rw [HF.out]; simp), if_pos (by rw [HV.out]; exact (ratQ_zero _ _ _ g3).2 (by omega))]; rfl)
    have hz2 : (((n1 : Nat) : Int) == 0) = true := by simp; omega
    clear hnn
    go_wp2
    obtain ⟨W9, hW9⟩ : ∃ W9, W9 = (W2.setCell ⟨w.heap.size + 1, 0, none⟩ (.string ⟨#[]⟩)).setCell ⟨w.heap.size + 1, 1, none⟩ (.string ⟨#[]⟩) := ⟨_, rfl⟩
    have B9 : Blk W9 (w.heap.size + 1) 23 #[.string ⟨#[]⟩, .string ⟨#[]⟩] := hW9 ▸ B1.store2 _ _
    have hbw9 : Below w.heap.size w W9 := hW9 ▸ hbw.store2 (by omega) _ _
    rw [← hW9]
    clear hW9
    have qc0 : W9.cell? ⟨w.heap.size + 1, 0, none⟩ = some (.string ⟨#[]⟩) := B9.cell 0
    have qc1 : W9.cell? ⟨w.heap.size + 1, 1, none⟩ = some (.string ⟨#[]⟩) := B9.cell 1
    refine bodyPost_ret (v := .tuple #[.agg #[.string ⟨#[]⟩, .string ⟨#[]⟩], .int .i64 19]) (by simp [results, Tryz.results13, go_sem, qc0, qc1]) rfl ⟨ret_val (HE.out.symm), hbw9⟩
  have hx0 : 0 < x1 := hnn.1 (by omega)
  have HE := Lib.hid (show invR (rx n d) = outR (valR (rx n d))⁻¹ by
    unfold invR
    rw [if_neg (by rw [HF.out]; simp), if_neg (by rw [HV.out]; exact fun h => by have := (ratQ_zero _ _ _ g3).1 h; omega)])
  have HQ := Lib.hid (show ratQ bu y1 x1 = (valR (rx n d))⁻¹ by rw [HV.out]; exact (ratQ_inv _ _ _ hx0 g3).symm)
  have hz2 : (((n1 : Nat) : Int) == 0) = false := by simp; omega
  clear hnn
  go_wp2_with fail
  refine (ratio_q W2 223 y1 x1 _ bu _ ⟨⟨_, _, rfl, HG2.out, HG1.out, hx0⟩⟩ HQ.out (by omega) (HT.out.below hbw)).mono ?_
  rintro e w4 ⟨⟨S1, S2, k, rfl, hout⟩, hb4⟩
  have HO := Lib.hid hout
  have hbw := hbw.trans (hb4.mono hbw.size)
  have B1 := B1.below hb4 B1.lt
  clear hout rc0 rz0 rc1 rz1 uc0 uc1 uc2
  have rc0 : w4.cell? ⟨w.heap.size + 1, 0, none⟩ = some (.string ⟨#[]⟩) := B1.cell 0
  have rz0 : w4.frozen? ⟨w.heap.size + 1, 0, none⟩ = false := B1.frozen 0
  have rc1 : w4.cell? ⟨w.heap.size + 1, 1, none⟩ = some (.string ⟨#[]⟩) := B1.cell 1
  have rz1 : w4.frozen? ⟨w.heap.size + 1, 1, none⟩ = false := B1.frozen 1
  go_wp2
  obtain ⟨W9, hW9⟩ : ∃ W9, W9 = (w4.setCell ⟨w.heap.size + 1, 0, none⟩ (.string S1)).setCell ⟨w.heap.size + 1, 1, none⟩ (.string S2) := ⟨_, rfl⟩
  have B9 : Blk W9 (w.heap.size + 1) 23 #[.string S1, .string S2] := hW9 ▸ B1.store2 _ _
  have hbw9 : Below w.heap.size w W9 := hW9 ▸ hbw.store2 (by omega) _ _
  rw [← hW9]
  clear hW9
  have qc0 : W9.cell? ⟨w.heap.size + 1, 0, none⟩ = some (.string S1) := B9.cell 0
  have qc1 : W9.cell? ⟨w.heap.size + 1, 1, none⟩ = some (.string S2) := B9.cell 1
  refine bodyPost_ret (v := .tuple #[.agg #[.string S1, .string S2], .int .i64 k]) (by simp [results, Tryz.results13, go_sem, qc0, qc1]) rfl ⟨ret_val (by rw [HE.out, HO.out]), hbw9⟩

set_option maxHeartbeats 2000000 in
set_option maxRecDepth 100000 in
theorem Order_any (n d n' d' : ByteArray) (w : World) (hn : n.size ≤ maxLen) (hd : d.size ≤ maxLen) (hn' : n'.size ≤ maxLen) (hd' : d'.size ≤ maxLen) :
    Calls Tryz.prog 15 #[.agg #[.string n, .string d], .agg #[.string n', .string d']] w fun e w' => e = .returned (ordV (ordR (rx n d) (rx n' d'))) ∧ Below w.heap.size w w' := by
  go_enter Tryz.func15, Tryz.ntmps15
  go_wp2_with fail
  obtain ⟨W, hW⟩ : ∃ W, W = ((w.alloc (.cells #[.string n, .string d] 23 (0, 0))).alloc (.cells #[.string n', .string d'] 23 (0, 0))) := ⟨_, rfl⟩
  have hbw : Below w.heap.size w W := by rw [hW]; exact (((Below.refl _ w).alloc (Nat.le_refl _) _).alloc (by simp) _)
  have B0 : Blk W (w.heap.size) 23 #[.string n, .string d] := by
    rw [hW]
    have := Blk.new w 23 #[.string n, .string d]
    have := this.alloc (.cells #[.string n', .string d'] 23 (0, 0))
    exact this
  have B1 : Blk W (w.heap.size + 1) 23 #[.string n', .string d'] := by
    rw [hW]
    have := Blk.new (w.alloc (.cells #[.string n, .string d] 23 (0, 0))) 23 #[.string n', .string d']
    rwa [World.size_alloc] at this
  have hsz : W.heap.size = w.heap.size + 2 := by rw [hW]; simp
  rw [← hW]
  clear hW
  refine (two_any n d n' d' W hn hd hn' hd').mono ?_
  rintro e w1 ⟨htv, hb1⟩
  obtain ⟨u, v, rfl, hok, ⟨bu, A1, n1, c1, A2, n2, c2, rfl⟩, ⟨bv, A3, n3, c3, A4, n4, c4, rfl⟩⟩ := htv.ex
  have HOK := Lib.hid hok
  clear hok htv
  have hbw := hbw.trans (hb1.mono hbw.size)
  have hs1 := hb1.size
  obtain ⟨f, hf⟩ : ∃ f, fltT (rx n d) (rx n' d') = f := ⟨_, rfl⟩
  have HF := Lib.hid hf
  rw [hf]
  clear hf hb1
  go_upto_if 18 with (fail)
  obtain ⟨W2, hW2⟩ : ∃ W2, W2 = (w1.alloc (.cells #[.bool bu, .slice A1 n1 c1, .slice A2 n2 c2] 47 (0, 0))).alloc (.cells #[.bool bv, .slice A3 n3 c3, .slice A4 n4 c4] 47 (0, 0)) := ⟨_, rfl⟩
  have hb2 : Below w1.heap.size w1 W2 := hW2 ▸ ((Below.refl _ w1).alloc (Nat.le_refl _) _).alloc (by simp) _
  have B3 : Blk W2 w1.heap.size 47 #[.bool bu, .slice A1 n1 c1, .slice A2 n2 c2] := by
    rw [hW2]
    exact (Blk.new w1 47 #[.bool bu, .slice A1 n1 c1, .slice A2 n2 c2]).alloc _
  have B4 : Blk W2 (w1.heap.size + 1) 47 #[.bool bv, .slice A3 n3 c3, .slice A4 n4 c4] := by
    rw [hW2]
    have := Blk.new (w1.alloc (.cells #[.bool bu, .slice A1 n1 c1, .slice A2 n2 c2] 47 (0, 0))) 47 #[.bool bv, .slice A3 n3 c3, .slice A4 n4 c4]
    rwa [World.size_alloc] at this
  rw [← hW2]
  clear hW2
  have hbw := hbw.trans (hb2.mono hbw.size)
  have uc0 : W2.cell? ⟨w1.heap.size, 0, none⟩ = some (.bool bu) := B3.cell 0
  have uc1 : W2.cell? ⟨w1.heap.size, 1, none⟩ = some (.slice A1 n1 c1) := B3.cell 1
  have uc2 : W2.cell? ⟨w1.heap.size, 2, none⟩ = some (.slice A2 n2 c2) := B3.cell 2
  have vc0 : W2.cell? ⟨w1.heap.size + 1, 0, none⟩ = some (.bool bv) := B4.cell 0
  have vz0 : W2.frozen? ⟨w1.heap.size + 1, 0, none⟩ = false := B4.frozen 0
  have vc1 : W2.cell? ⟨w1.heap.size + 1, 1, none⟩ = some (.slice A3 n3 c3) := B4.cell 1
  have vz1 : W2.frozen? ⟨w1.heap.size + 1, 1, none⟩ = false := B4.frozen 1
  have vc2 : W2.cell? ⟨w1.heap.size + 1, 2, none⟩ = some (.slice A4 n4 c4) := B4.cell 2
  have vz2 : W2.frozen? ⟨w1.heap.size + 1, 2, none⟩ = false := B4.frozen 2
  by_cases h0 : f = 0
  rotate_left
  · have hne : (((f : Nat) : Int) != 0) = true := by simp; omega
    have HE := Lib.hid (show ordV (ordR (rx n d) (rx n' d')) = .tuple #[.int .i64 0, .int .i64 (f : Nat)] by
      have hf := HF.out
      unfold fltT at hf
      unfold ordR
      by_cases h1 : fltR (rx n d) = 0
      · rw [if_neg (by simp [h1])] at hf
        rw [if_neg (by simp [h1]), if_pos (by rw [hf]; exact h0), hf]; rfl
      · rw [if_pos h1] at hf
        rw [if_pos h1, hf]; rfl)
    go_wp2
    go_ret2
    exact ⟨ret_val HE.out.symm, hbw⟩
  subst h0
  have HFF := Lib.hid (show fltR (rx n d) = 0 ∧ fltR (rx n' d') = 0 by
    have hf := HF.out
    unfold fltT at hf
    by_cases h1 : fltR (rx n d) = 0
    · rw [if_neg (by simp [h1])] at hf
      exact ⟨h1, hf⟩
    · rw [if_pos h1] at hf
      exact absurd hf h1)
  have HE := Lib.hid (show ordR (rx n d) (rx n' d') = (ordQ (valR (rx n d)) (valR (rx n' d')), 0) by
    unfold ordR
    rw [if_neg (by simp [HFF.out.1]), if_neg (by simp [HFF.out.2])])
  obtain ⟨x1, hx1⟩ : ∃ x, digVal (cutN (rx n d).n).1 = x := ⟨_, rfl⟩
  obtain ⟨y1, hy1⟩ : ∃ x, digVal (rx n d).d = x := ⟨_, rfl⟩
  obtain ⟨x2, hx2⟩ : ∃ x, digVal (cutN (rx n' d').n).1 = x := ⟨_, rfl⟩
  obtain ⟨y2, hy2⟩ : ∃ x, digVal (rx n' d').d = x := ⟨_, rfl⟩
  obtain ⟨e1, g1, g2, g3⟩ := (((HOK.out HFF.out.1).1.below hb2).ok HFF.out.1).parts
  obtain ⟨e2, g4, g5, g6⟩ := (((HOK.out HFF.out.1).2.below hb2).ok HFF.out.2).parts
  rw [hx1] at g1
  rw [hy1] at g2 g3
  rw [hx2] at g4
  rw [hy2] at g5 g6
  have HQ := Lib.hid (show ratQ bu x1 y1 + ratQ (!bv) x2 y2 = valR (rx n d) - valR (rx n' d') by
    unfold valR
    rw [hx1, hy1, hx2, hy2, ← e1, ← e2, ratQ_not]
    grind)
  clear e1 e2
  go_wp2_with fail
  obtain ⟨W3, hW3⟩ : ∃ W3, W3 = W2.setCell ⟨w1.heap.size + 1, 0, none⟩ (.bool (!bv)) := ⟨_, rfl⟩
  have HG1 := Lib.hid (hW3 ▸ g1.box vc0 (.bool (!bv)) : Rep W3 223 (.slice A1 n1 c1) x1)
  have HG2 := Lib.hid (hW3 ▸ g2.box vc0 (.bool (!bv)) : Rep W3 223 (.slice A2 n2 c2) y1)
  have HG4 := Lib.hid (hW3 ▸ g4.box vc0 (.bool (!bv)) : Rep W3 223 (.slice A3 n3 c3) x2)
  have HG5 := Lib.hid (hW3 ▸ g5.box vc0 (.bool (!bv)) : Rep W3 223 (.slice A4 n4 c4) y2)
  have hbw : Below w.heap.size w W3 := hW3 ▸ hbw.setCell (p := ⟨w1.heap.size + 1, 0, none⟩) (by show w.heap.size ≤ w1.heap.size + 1; omega) _
  rw [← hW3]
  clear g1 g2 g4 g5 hx1 hy1 hx2 hy2 HOK hW3 uc0 uc1 uc2 vc0 vz0 vc1 vz1 vc2 vz2
  refine (plus_any W3 223 x1 y1 x2 y2 _ _ bu (!bv) ⟨⟨_, _, rfl, HG1.out, HG2.out, g3⟩⟩ ⟨⟨_, _, rfl, HG4.out, HG5.out, g6⟩⟩ (by omega)).mono ?_
  rintro e w3 ⟨hpv, hb3⟩
  obtain ⟨r, b, x, y, rfl, hfr, hq⟩ := hpv.ex
  obtain ⟨vn, vd, rfl, hrn, hrd, hy⟩ := hfr.ex
  obtain ⟨An, nn, cn, rfl, hnn, -⟩ := hrn.form
  obtain ⟨Ad, nd, cd, rfl, -, -⟩ := hrd.form
  have HQ := Lib.hid (hq.trans HQ.out)
  have hbw := hbw.trans (hb3.mono hbw.size)
  clear hq hfr hrn hrd hpv
  have HS := Lib.hid (ratQ_sign b x y hy)
  have HNN := Lib.hid hnn
  clear hnn
  by_cases hz : nn = 0
  · have HO := Lib.hid (show ordQ (valR (rx n d)) (valR (rx n' d')) = 0 by
      have h := HS.out.1 (by have := HNN.out; omega)
      rw [HQ.out] at h
      unfold ordQ
      rw [if_neg (by grind), if_neg (by grind)])
    have hz2 : (((nn : Nat) : Int) == 0) = true := by simp; omega
    go_wp2
    go_ret2
    exact ⟨ret_val (by rw [HE.out, HO.out]; rfl), hbw.alloc hbw.size _⟩
  have hz2 : (((nn : Nat) : Int) == 0) = false := by simp; omega
  have hx0 : 0 < x := HNN.out.1 (by omega)
  cases b
  · have HO := Lib.hid (show ordQ (valR (rx n d)) (valR (rx n' d')) = 1 by
      have h := HS.out.2.2 hx0 rfl
      rw [HQ.out] at h
      unfold ordQ
      rw [if_neg (by grind), if_pos (by grind)])
    go_wp2
    go_ret2
    exact ⟨ret_val (by rw [HE.out, HO.out]; rfl), hbw.alloc hbw.size _⟩
  · have HO := Lib.hid (show ordQ (valR (rx n d)) (valR (rx n' d')) = -1 by
      have h := HS.out.2.1 hx0 rfl
      rw [HQ.out] at h
      unfold ordQ
      rw [if_pos (by grind)])
    go_wp2
    go_ret2
    exact ⟨ret_val (by rw [HE.out, HO.out]; rfl), hbw.alloc hbw.size _⟩
end Go.Proofs.YtmpelpmhbadjoaaGreatDoor
