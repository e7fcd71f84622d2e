/- The walk of Product. -/
import Derived.Test.YtmpelpmhbadjoaaGreatDoorSum
namespace Go.Proofs.YtmpelpmhbadjoaaGreatDoor
open Go.RowKit Limb Dig Rtx

theorem Blk.far2 {w : World} {g g' t : Nat} {cs : Array Value} (B : Blk w g t cs) (hne : g ≠ g') (b0 b1 : Value) : Blk ((w.setCell ⟨g', 0, none⟩ b0).setCell ⟨g', 1, none⟩ b1) g t cs :=
  (B.far (p := ⟨g', 0, none⟩) hne _).far (p := ⟨g', 1, none⟩) hne _
theorem Frac.parts {w : World} {L : Nat} {b neg : Bool} {A1 A2 : Option Addr} {n1 c1 n2 c2 x y : Nat} (h : Frac w L (.agg #[.bool b, .slice A1 n1 c1, .slice A2 n2 c2]) neg x y) : b = neg ∧ Rep w L (.slice A1 n1 c1) x ∧ Rep w L (.slice A2 n2 c2) y ∧ 0 < y := by
  obtain ⟨n, d, e, h1, h2, h3⟩ := h.ex
  injection e with e
  have e := congrArg Array.toList e
  simp only [List.cons.injEq, Value.bool.injEq, and_true] at e
  obtain ⟨e1, e2, e3⟩ := e
  subst e1 e2 e3
  exact ⟨rfl, h1, h2, h3⟩
set_option maxHeartbeats 2000000 in
set_option maxRecDepth 100000 in
theorem Prod_any (n d n' d' : ByteArray) (w : World) (hn : n.size ≤ maxLen) (hd : d.size ≤ maxLen) (hn' : n'.size ≤ maxLen) (hd' : d'.size ≤ maxLen) (htab : Tab w) :
    Calls Tryz.prog 11 #[.agg #[.string n, .string d], .agg #[.string n', .string d']] w fun e w' => e = .returned (outV (prodR (rx n d) (rx n' d'))) ∧ Below w.heap.size w w' := by
  have HT := Lib.hid htab
  clear htab
  go_enter Tryz.func11, Tryz.ntmps11
  go_wp2_with fail
  obtain ⟨W, hW⟩ : ∃ W, W = (((w.alloc (.cells #[.string n, .string d] 23 (0, 0))).alloc (.cells #[.string n', .string d'] 23 (0, 0))).alloc (.cells #[.string ⟨#[]⟩, .string ⟨#[]⟩] 23 (0, 0))) := ⟨_, rfl⟩
  have hbw : Below w.heap.size w W := by rw [hW]; exact ((((Below.refl _ w).alloc (Nat.le_refl _) _).alloc (by simp) _).alloc (by simp; omega) _)
  have B0 : Blk W (w.heap.size) 23 #[.string n, .string d] := by
    rw [hW]
    have := Blk.new w 23 #[.string n, .string d]
    have := this.alloc (.cells #[.string n', .string d'] 23 (0, 0))
    have := this.alloc (.cells #[.string ⟨#[]⟩, .string ⟨#[]⟩] 23 (0, 0))
    exact this
  have B1 : Blk W (w.heap.size + 1) 23 #[.string n', .string d'] := by
    rw [hW]
    have := Blk.new (w.alloc (.cells #[.string n, .string d] 23 (0, 0))) 23 #[.string n', .string d']
    have := this.alloc (.cells #[.string ⟨#[]⟩, .string ⟨#[]⟩] 23 (0, 0))
    rwa [World.size_alloc] at this
  have B2 : Blk W (w.heap.size + 2) 23 #[.string ⟨#[]⟩, .string ⟨#[]⟩] := by
    rw [hW]
    have := Blk.new ((w.alloc (.cells #[.string n, .string d] 23 (0, 0))).alloc (.cells #[.string n', .string d'] 23 (0, 0))) 23 #[.string ⟨#[]⟩, .string ⟨#[]⟩]
    rwa [World.size_alloc, World.size_alloc] at this
  have hsz : W.heap.size = w.heap.size + 3 := by rw [hW]; simp
  rw [← hW]
  clear hW
  refine (two_any n d n' d' W hn hd hn' hd').mono ?_
  rintro e w1 ⟨htv, hb1⟩
  obtain ⟨u, v, rfl, hok, ⟨bu, A1, n1, c1, A2, n2, c2, rfl⟩, ⟨bv, A3, n3, c3, A4, n4, c4, rfl⟩⟩ := htv.ex
  have HOK := Lib.hid hok
  clear hok htv
  have hbw := hbw.trans (hb1.mono hbw.size)
  have hs1 := hb1.size
  have B2 := B2.below hb1 B2.lt
  obtain ⟨f, hf⟩ : ∃ f, fltT (rx n d) (rx n' d') = f := ⟨_, rfl⟩
  have HF := Lib.hid hf
  rw [hf]
  clear hf hb1
  go_upto_if 17 with (fail)
  obtain ⟨W2, hW2⟩ : ∃ W2, W2 = (w1.alloc (.cells #[.bool bu, .slice A1 n1 c1, .slice A2 n2 c2] 47 (0, 0))).alloc (.cells #[.bool bv, .slice A3 n3 c3, .slice A4 n4 c4] 47 (0, 0)) := ⟨_, rfl⟩
  have hb2 : Below w1.heap.size w1 W2 := hW2 ▸ ((Below.refl _ w1).alloc (Nat.le_refl _) _).alloc (by simp) _
  have B3 : Blk W2 w1.heap.size 47 #[.bool bu, .slice A1 n1 c1, .slice A2 n2 c2] := by
    rw [hW2]
    exact (Blk.new w1 47 #[.bool bu, .slice A1 n1 c1, .slice A2 n2 c2]).alloc _
  have B4 : Blk W2 (w1.heap.size + 1) 47 #[.bool bv, .slice A3 n3 c3, .slice A4 n4 c4] := by
    rw [hW2]
    have := Blk.new (w1.alloc (.cells #[.bool bu, .slice A1 n1 c1, .slice A2 n2 c2] 47 (0, 0))) 47 #[.bool bv, .slice A3 n3 c3, .slice A4 n4 c4]
    rwa [World.size_alloc] at this
  rw [← hW2]
  clear hW2
  have hbw := hbw.trans (hb2.mono hbw.size)
  have B2 := B2.below hb2 B2.lt
  have rc0 : W2.cell? ⟨w.heap.size + 2, 0, none⟩ = some (.string ⟨#[]⟩) := B2.cell 0
  have rz0 : W2.frozen? ⟨w.heap.size + 2, 0, none⟩ = false := B2.frozen 0
  have rc1 : W2.cell? ⟨w.heap.size + 2, 1, none⟩ = some (.string ⟨#[]⟩) := B2.cell 1
  have rz1 : W2.frozen? ⟨w.heap.size + 2, 1, none⟩ = false := B2.frozen 1
  have uc0 : W2.cell? ⟨w1.heap.size, 0, none⟩ = some (.bool bu) := B3.cell 0
  have uc1 : W2.cell? ⟨w1.heap.size, 1, none⟩ = some (.slice A1 n1 c1) := B3.cell 1
  have uc2 : W2.cell? ⟨w1.heap.size, 2, none⟩ = some (.slice A2 n2 c2) := B3.cell 2
  have vc0 : W2.cell? ⟨w1.heap.size + 1, 0, none⟩ = some (.bool bv) := B4.cell 0
  have vc1 : W2.cell? ⟨w1.heap.size + 1, 1, none⟩ = some (.slice A3 n3 c3) := B4.cell 1
  have vc2 : W2.cell? ⟨w1.heap.size + 1, 2, none⟩ = some (.slice A4 n4 c4) := B4.cell 2
  by_cases h0 : f = 0
  rotate_left
  · have hne : (((f : Nat) : Int) != 0) = true := by simp; omega
    have HE := Lib.hid (show outV (prodR (rx n d) (rx n' d')) = .tuple #[.agg #[.string ⟨#[]⟩, .string ⟨#[]⟩], .int .i64 (f : Nat)] by
      have hf := HF.out
      unfold fltT at hf
      unfold prodR
      by_cases h1 : fltR (rx n d) = 0
      · rw [if_neg (by simp [h1])] at hf
        rw [if_neg (by simp [h1]), if_pos (by rw [hf]; exact h0), hf]; rfl
      · rw [if_pos h1] at hf
        rw [if_pos h1, hf]; rfl)
    go_wp2
    obtain ⟨W9, hW9⟩ : ∃ W9, W9 = (W2.setCell ⟨w.heap.size + 2, 0, none⟩ (.string ⟨#[]⟩)).setCell ⟨w.heap.size + 2, 1, none⟩ (.string ⟨#[]⟩) := ⟨_, rfl⟩
    have B9 : Blk W9 (w.heap.size + 2) 23 #[.string ⟨#[]⟩, .string ⟨#[]⟩] := hW9 ▸ B2.store2 _ _
    have hbw9 : Below w.heap.size w W9 := hW9 ▸ hbw.store2 (by omega) _ _
    rw [← hW9]
    clear hW9
    have qc0 : W9.cell? ⟨w.heap.size + 2, 0, none⟩ = some (.string ⟨#[]⟩) := B9.cell 0
    have qc1 : W9.cell? ⟨w.heap.size + 2, 1, none⟩ = some (.string ⟨#[]⟩) := B9.cell 1
    refine bodyPost_ret (v := .tuple #[.agg #[.string ⟨#[]⟩, .string ⟨#[]⟩], .int .i64 ((f : Nat) : Int)]) (by simp [results, Tryz.results11, go_sem, qc0, qc1]) rfl ⟨ret_val (HE.out.symm), hbw9⟩
  subst h0
  have HFF := Lib.hid (show fltR (rx n d) = 0 ∧ fltR (rx n' d') = 0 by
    have hf := HF.out
    unfold fltT at hf
    by_cases h1 : fltR (rx n d) = 0
    · rw [if_neg (by simp [h1])] at hf
      exact ⟨h1, hf⟩
    · rw [if_pos h1] at hf
      exact absurd hf h1)
  have HE := Lib.hid (show prodR (rx n d) (rx n' d') = outR (valR (rx n d) * valR (rx n' d')) by
    unfold prodR
    rw [if_neg (by simp [HFF.out.1]), if_neg (by simp [HFF.out.2])])
  obtain ⟨x1, hx1⟩ : ∃ x, digVal (cutN (rx n d).n).1 = x := ⟨_, rfl⟩
  obtain ⟨y1, hy1⟩ : ∃ x, digVal (rx n d).d = x := ⟨_, rfl⟩
  obtain ⟨x2, hx2⟩ : ∃ x, digVal (cutN (rx n' d').n).1 = x := ⟨_, rfl⟩
  obtain ⟨y2, hy2⟩ : ∃ x, digVal (rx n' d').d = x := ⟨_, rfl⟩
  obtain ⟨e1, g1, g2, g3⟩ := (((HOK.out HFF.out.1).1.below hb2).ok HFF.out.1).parts
  obtain ⟨e2, g4, g5, g6⟩ := (((HOK.out HFF.out.1).2.below hb2).ok HFF.out.2).parts
  rw [hx1] at g1
  rw [hy1] at g2 g3
  rw [hx2] at g4
  rw [hy2] at g5 g6
  have HQ := Lib.hid (show ratQ (bu != bv) (x1 * x2) (y1 * y2) = valR (rx n d) * valR (rx n' d') by
    unfold valR
    rw [hx1, hy1, hx2, hy2, ← e1, ← e2]
    exact (ratQ_mul _ _ _ _ _ _ g3 g6).symm)
  have hyy : 0 < y1 * y2 := Nat.mul_pos g3 g6
  have HG1 := Lib.hid g1
  have HG2 := Lib.hid g2
  have HG4 := Lib.hid g4
  have HG5 := Lib.hid g5
  clear g1 g2 g4 g5 e1 e2 hx1 hy1 hx2 hy2 HOK
  have HT2 := Lib.hid (HT.out.below hbw)
  have K1 := Lib.hid (K_of (fun w' (hb : Below W2.heap.size W2 w') => (times_rep w' 223 223 _ _ _ _ (HG1.out.below hb) (HG4.out.below hb) (by omega) (by omega)).mono fun _ _ ⟨h, hb⟩ => ⟨sl_form h, hb⟩))
  have K2 := Lib.hid (K_of (fun w' (hb : Below W2.heap.size W2 w') => (times_rep w' 223 223 _ _ _ _ (HG2.out.below hb) (HG5.out.below hb) (by omega) (by omega)).mono fun _ _ ⟨h, hb⟩ => ⟨sl_form h, hb⟩))
  have hq0 : Below W2.heap.size W2 W2.drew := (Below.refl _ _).drew
  have hne1 : w.heap.size + 2 < w1.heap.size := by omega
  go_upto_region 4 with (fail)
  go_region_held3 (fun w' => w'.cell? ⟨w1.heap.size, 0, none⟩ = some (.bool bu) ∧ w'.cell? ⟨w1.heap.size, 1, none⟩ = some (.slice A1 n1 c1) ∧ w'.cell? ⟨w1.heap.size, 2, none⟩ = some (.slice A2 n2 c2) ∧ w'.cell? ⟨w1.heap.size + 1, 0, none⟩ = some (.bool bv) ∧ w'.cell? ⟨w1.heap.size + 1, 1, none⟩ = some (.slice A3 n3 c3) ∧ w'.cell? ⟨w1.heap.size + 1, 2, none⟩ = some (.slice A4 n4 c4) ∧ Below w.heap.size w w')
    (first | exact ⟨Below.cell_of hq3 uc0, Below.cell_of hq3 uc1, Below.cell_of hq3 uc2, Below.cell_of hq3 vc0, Below.cell_of hq3 vc1, Below.cell_of hq3 vc2, hbw.trans (hq3.mono hbw.size)⟩ | exact ⟨Below.cell_of hq2 uc0, Below.cell_of hq2 uc1, Below.cell_of hq2 uc2, Below.cell_of hq2 vc0, Below.cell_of hq2 vc1, Below.cell_of hq2 vc2, hbw.trans (hq2.mono hbw.size)⟩ | exact ⟨Below.cell_of hq1 uc0, Below.cell_of hq1 uc1, Below.cell_of hq1 uc2, Below.cell_of hq1 vc0, Below.cell_of hq1 vc1, Below.cell_of hq1 vc2, hbw.trans (hq1.mono hbw.size)⟩ | exact ⟨Below.cell_of hq0 uc0, Below.cell_of hq0 uc1, Below.cell_of hq0 uc2, Below.cell_of hq0 vc0, Below.cell_of hq0 vc1, Below.cell_of hq0 vc2, hbw.trans (hq0.mono hbw.size)⟩ | exact ⟨(C3.far2 (by omega) _ _).cell 0, (C3.far2 (by omega) _ _).cell 1, (C3.far2 (by omega) _ _).cell 2, (C4.far2 (by omega) _ _).cell 0, (C4.far2 (by omega) _ _).cell 1, (C4.far2 (by omega) _ _).cell 2, (hbw.trans (hq3.mono hbw.size)).store2 (by omega) _ _⟩)
    (first
      | (go_at_call 42; (with_reducible refine (K1.out _ (by assumption)).mono ?_); rintro e w' ⟨⟨Ap, np, cp, rfl, hp⟩, hq1, hb4⟩)
      | (go_at_call 42; (with_reducible refine (K2.out _ (by assumption)).mono ?_); rintro e w' ⟨⟨Aq, nq, cq, rfl, hq⟩, hq2, hb5⟩)
      | (go_at_call 25; refine (ratio_q _ 446 (x1 * x2) (y1 * y2) _ (bu != bv) _ ⟨⟨_, _, rfl, hp.below hb5, hq, hyy⟩⟩ HQ.out (by omega) (HT2.out.below hq2)).mono ?_; rintro e w' ⟨⟨S1, S2, k, rfl, hout⟩, hb6⟩; have hq3 := hq2.trans (hb6.mono hq2.size); have C2 := B2.below hq3 B2.lt; have C3 := B3.below hq3 B3.lt; have C4 := B4.below hq3 B4.lt; have rc0 := Below.cell_of hq3 rc0; have rc1 := Below.cell_of hq3 rc1; have rz0 := C2.frozen 0; have rz1 := C2.frozen 1; have HO := Lib.hid hout; clear hout))
  all_goals
    go_wp2_with (fail)
    have hbw := hbw.trans (hq3.mono hbw.size)
    obtain ⟨W9, hW9⟩ : ∃ W9, W9 = (w'.setCell ⟨w.heap.size + 2, 0, none⟩ (.string S1)).setCell ⟨w.heap.size + 2, 1, none⟩ (.string S2) := ⟨_, rfl⟩
    have B9 : Blk W9 (w.heap.size + 2) 23 #[.string S1, .string S2] := hW9 ▸ C2.store2 _ _
    have hbw9 : Below w.heap.size w W9 := hW9 ▸ hbw.store2 (by omega) _ _
    rw [← hW9]
    clear hW9
    have qc0 : W9.cell? ⟨w.heap.size + 2, 0, none⟩ = some (.string S1) := B9.cell 0
    have qc1 : W9.cell? ⟨w.heap.size + 2, 1, none⟩ = some (.string S2) := B9.cell 1
    refine bodyPost_ret (v := .tuple #[.agg #[.string S1, .string S2], .int .i64 k]) (by simp [results, Tryz.results11, go_sem, qc0, qc1]) rfl ⟨ret_val (by rw [HE.out, HO.out]), hbw9⟩

end Go.Proofs.YtmpelpmhbadjoaaGreatDoor
