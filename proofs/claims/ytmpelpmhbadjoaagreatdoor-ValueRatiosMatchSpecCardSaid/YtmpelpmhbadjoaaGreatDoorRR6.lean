/- The reference's Order. -/
import Derived.Test.YtmpelpmhbadjoaaGreatDoorRR3
namespace Go.Proofs.YtmpelpmhbadjoaaGreatDoor
open Go.RowKit Limb Dig Rtx

/-- two fractions compared as the reference does -/
def ordN (b1 : Bool) (x1 y1 : Nat) (b2 : Bool) (x2 y2 : Nat) : Int :=
  if b1 ≠ b2 then (if b1 then -1 else 1) else (if b1 then -(ordI ((x1 * y2 : Nat) : Int) ((x2 * y1 : Nat) : Int)) else ordI ((x1 * y2 : Nat) : Int) ((x2 * y1 : Nat) : Int))
theorem ratQ_lt (b : Bool) (x1 y1 x2 y2 : Nat) (h1 : 0 < y1) (h2 : 0 < y2) : (ratQ b x1 y1 < ratQ b x2 y2 ↔ if b then x2 * y1 < x1 * y2 else x1 * y2 < x2 * y1) := by
  have c1 := ratQ_cross b x1 y1 y2 h1 h2
  have c2 := ratQ_cross b x2 y2 y1 h2 h1
  rw [← c1, ← c2, Nat.mul_comm y2 y1]
  have hd : 0 < y1 * y2 := Nat.mul_pos h1 h2
  generalize y1 * y2 = D at hd
  generalize x1 * y2 = P
  generalize x2 * y1 = Q
  have hD : (0 : Rat) < (D : Rat) := by exact_mod_cast hd
  rw [ratQ_div, ratQ_div]
  have hPQ : ((P : Rat) < (Q : Rat)) ↔ P < Q := Rat.natCast_lt_natCast
  have hQP : ((Q : Rat) < (P : Rat)) ↔ Q < P := Rat.natCast_lt_natCast
  cases b
  · simp only [Bool.false_eq_true, if_false]
    rw [← hPQ]
    rw [Rat.div_lt_iff hD, Rat.div_mul_cancel (Rat.ne_of_gt hD)]
  · simp only [if_true]
    rw [← hQP]
    rw [Rat.div_lt_iff hD, Rat.div_mul_cancel (Rat.ne_of_gt hD)]
    exact Rat.neg_lt_neg_iff
theorem neg_pos {n d : ByteArray} (h : fltR (rx n d) = 0) : (cutN n.data.toList).2 = true → 0 < digVal (cutN n.data.toList).1 := by
  intro hn
  unfold fltR at h
  split at h
  · cases h
  · split at h
    · cases h
    · rename_i h2
      rcases Nat.eq_zero_or_pos (digVal (cutN n.data.toList).1) with hz | hz
      · have g1 : Sound (cutN n.data.toList).1 := Classical.byContradiction fun hx => h2 (.inl hx)
        exact absurd (.inr (.inr (.inr ⟨hn, sound_zero_of g1 hz⟩))) h2
      · exact hz
theorem ordQ_N (b1 : Bool) (x1 y1 : Nat) (b2 : Bool) (x2 y2 : Nat) (h1 : 0 < y1) (h2 : 0 < y2) (p1 : b1 = true → 0 < x1) (p2 : b2 = true → 0 < x2) : ordQ (ratQ b1 x1 y1) (ratQ b2 x2 y2) = ordN b1 x1 y1 b2 x2 y2 := by
  unfold ordN
  by_cases hb : b1 = b2
  · subst hb
    rw [if_neg (by simp)]
    unfold ordQ
    have l1 := ratQ_lt b1 x1 y1 x2 y2 h1 h2
    have l2 := ratQ_lt b1 x2 y2 x1 y1 h2 h1
    unfold ordI
    simp only [l1, l2]
    clear l1 l2
    generalize x1 * y2 = P
    generalize x2 * y1 = Q
    cases b1 <;> simp only [Bool.false_eq_true, if_false, if_true] <;> repeat' split
    all_goals omega
  · rw [if_pos hb]
    unfold ordQ
    obtain ⟨a0, a1, a2⟩ := ratQ_sign b1 x1 y1 h1
    obtain ⟨c0, c1, c2⟩ := ratQ_sign b2 x2 y2 h2
    cases b1
    · have hb2 : b2 = true := by cases b2; exact absurd rfl hb; rfl
      have g1 := c1 (p2 hb2) hb2
      have g2 : 0 ≤ ratQ false x1 y1 := by
        rcases Nat.eq_zero_or_pos x1 with hz | hz
        · rw [a0 hz]; exact Rat.le_refl
        · exact Rat.le_of_lt (a2 hz rfl)
      rw [if_neg (by grind), if_pos (by grind)]; simp
    · have hb2 : b2 = false := by cases b2; rfl; exact absurd rfl hb
      have g1 := a1 (p1 rfl) rfl
      have g2 : 0 ≤ ratQ b2 x2 y2 := by
        rcases Nat.eq_zero_or_pos x2 with hz | hz
        · rw [c0 hz]; exact Rat.le_refl
        · exact Rat.le_of_lt (c2 hz hb2)
      rw [if_pos (by grind)]; simp
set_option maxHeartbeats 4000000 in
set_option maxRecDepth 100000 in
theorem rorder_any (n d n' d' : ByteArray) (w : World) (hn : n.size ≤ maxLen) (hd : d.size ≤ maxLen) (hn' : n'.size ≤ maxLen) (hd' : d'.size ≤ maxLen) (htab : Tab w) :
    Calls Tryz.prog 16 #[.agg #[.string n, .string d], .agg #[.string n', .string d']] w fun e w' => e = .returned (ordV (ordR (rx n d) (rx n' d'))) ∧ Below w.heap.size w w' := by
  have HT := Lib.hid htab
  clear htab
  go_enter Tryz.func16, Tryz.ntmps16
  go_wp2_with fail
  obtain ⟨W, hW⟩ : ∃ W, W = ((w.alloc (.cells #[.string n, .string d] 23 (0, 0))).alloc (.cells #[.string n', .string d'] 23 (0, 0))) := ⟨_, rfl⟩
  have hbw : Below w.heap.size w W := by rw [hW]; exact (((Below.refl _ w).alloc (Nat.le_refl _) _).alloc (by simp) _)
  have B0 : Blk W (w.heap.size) 23 #[.string n, .string d] := by
    rw [hW]
    have := Blk.new w 23 #[.string n, .string d]
    have := this.alloc (.cells #[.string n', .string d'] 23 (0, 0))
    exact this
  have B1 : Blk W (w.heap.size + 1) 23 #[.string n', .string d'] := by
    rw [hW]
    have := Blk.new (w.alloc (.cells #[.string n, .string d] 23 (0, 0))) 23 #[.string n', .string d']
    rwa [World.size_alloc] at this
  have hsz : W.heap.size = w.heap.size + 2 := by rw [hW]; simp
  rw [← hW]
  clear hW hsz
  refine (rboth_any n d n' d' W hn hd hn' hd' (HT.out.below hbw)).mono ?_
  rintro e w1 ⟨rfl, hb1⟩
  have B0 := B0.below hb1 B0.lt
  have B1 := B1.below hb1 B1.lt
  have hbw := hbw.trans (hb1.mono hbw.size)
  obtain ⟨f, hf⟩ : ∃ f, fltT (rx n d) (rx n' d') = f := ⟨_, rfl⟩
  have HF := Lib.hid hf
  rw [hf]
  clear hf
  by_cases h0 : f = 0
  rotate_left
  · have hne : (((f : Nat) : Int) != 0) = true := by simp; omega
    have HE := Lib.hid (show ordV (ordR (rx n d) (rx n' d')) = .tuple #[.int .i64 0, .int .i64 (f : Nat)] by
      have hf := HF.out
      unfold fltT at hf
      unfold ordR
      by_cases h1 : fltR (rx n d) = 0
      · rw [if_neg (by simp [h1])] at hf
        rw [if_neg (by simp [h1]), if_pos (by rw [hf]; exact h0), hf]; rfl
      · rw [if_pos h1] at hf
        rw [if_pos h1, hf]; rfl)
    clear hb1
    go_wp2
    go_ret2
    exact ⟨ret_val HE.out.symm, hbw⟩
  subst h0
  have HFF := Lib.hid (show fltR (rx n d) = 0 ∧ fltR (rx n' d') = 0 by
    have hf := HF.out
    unfold fltT at hf
    by_cases h1 : fltR (rx n d) = 0
    · rw [if_neg (by simp [h1])] at hf
      exact ⟨h1, hf⟩
    · rw [if_pos h1] at hf
      exact absurd hf h1)
  have HE := Lib.hid (show ordR (rx n d) (rx n' d') = (ordQ (valR (rx n d)) (valR (rx n' d')), 0) by
    unfold ordR
    rw [if_neg (by simp [HFF.out.1]), if_neg (by simp [HFF.out.2])])
  have HO1 : Hid (fltR (rx n d) = 0) := Lib.hid HFF.out.1
  have HO2 : Hid (fltR (rx n' d') = 0) := Lib.hid HFF.out.2
  clear hb1
  have fc0 : w1.cell? ⟨w.heap.size, 0, none⟩ = some (.string n) := B0.cell 0
  have fc1 : w1.cell? ⟨w.heap.size, 1, none⟩ = some (.string d) := B0.cell 1
  have gc0 : w1.cell? ⟨w.heap.size + 1, 0, none⟩ = some (.string n') := B1.cell 0
  have gc1 : w1.cell? ⟨w.heap.size + 1, 1, none⟩ = some (.string d') := B1.cell 1
  go_upto_region 4 with (fail)
  have K1 := Lib.hid (K_of (fun w' (hb : Below w1.heap.size w1 w') => open_sl n d w' HO1.out))
  have K2 := Lib.hid (K_of (fun w' (hb : Below w1.heap.size w1 w') => open_sl n' d' w' HO2.out))
  have hq0 : Below w1.heap.size w1 w1.drew := (Below.refl _ _).drew
  go_cut [7, 8] (fun p q wx => TwoI w1 wx p q (cutN n.data.toList).2 (digVal (cutN n.data.toList).1) (digVal d.data.toList) (cutN n'.data.toList).2 (digVal (cutN n'.data.toList).1) (digVal d'.data.toList))
  case first =>
    go_region_held3 (fun w' => w'.cell? ⟨w.heap.size, 0, none⟩ = some (.string n) ∧ w'.cell? ⟨w.heap.size, 1, none⟩ = some (.string d) ∧ w'.cell? ⟨w.heap.size + 1, 0, none⟩ = some (.string n') ∧ w'.cell? ⟨w.heap.size + 1, 1, none⟩ = some (.string d') ∧ Below w1.heap.size w1 w')
      ((refine (fun h => ⟨Below.cell_of h fc0, Below.cell_of h fc1, Below.cell_of h gc0, Below.cell_of h gc1, h⟩) (?_ : Below w1.heap.size w1 _); (repeat' (first | with_reducible exact hq2 | with_reducible exact hq1 | with_reducible exact hq0 | with_reducible exact Below.refl _ _ | with_reducible refine belA ?_ _ | with_reducible refine Below.drew ?_ | with_reducible refine Below.store3 ?_ (by have := hq1.size; first | exact this | exact Nat.le_refl _ | exact Nat.le_succ _ | omega | (simp; omega)) _ _ _))))
      (first
        | (go_at_call 37; (with_reducible refine (K1.out _ (by first | assumption | exact Below.alloc (by assumption) (Below.size (by assumption)) _ | exact Below.drew (Below.alloc (Below.refl _ _) (Nat.le_refl _) _) | exact Below.drew (Below.alloc (Below.alloc (Below.refl _ _) (Nat.le_refl _) _) (by simp) _))).mono ?_); rintro e w5 ⟨⟨b1, A1, n1, c1, A2, n2, c2, rfl, hp⟩, hq1, hb1⟩; obtain ⟨hcA, hfA⟩ := bcell hb1; have hBk1 := Lib.hid (fun g cs h => Blk.below (g := g) (cs := cs) (t := 53) h hb1 (Blk.lt h)); (try have hy1 : w1.heap.size < w5.heap.size := (by have h := hb1.size; (try simp at h); omega)); (try have hy1' : w1.heap.size + 1 < w5.heap.size := (by have h := hb1.size; (try simp at h); omega)))
        | (go_at_call 37; (with_reducible refine (K2.out _ (by first | assumption | exact Below.alloc (by assumption) (Below.size (by assumption)) _ | exact Below.alloc (Below.alloc (by assumption) (Below.size (by assumption)) _) (by simp; exact Nat.le_succ_of_le (Below.size (by assumption))) _)).mono ?_); rintro e w6 ⟨⟨b2, A3, n3, c3, A4, n4, c4, rfl, hq⟩, hq2, hb2⟩; obtain ⟨hcB, hfB⟩ := bcell hb2; have hBk2 := Lib.hid (fun g cs h => Blk.below (g := g) (cs := cs) (t := 53) h hb2 (Blk.lt h)); (try have hy2 : w1.heap.size < w6.heap.size := (by have h := hb2.size; (try simp at h); omega)); (try have hy2' : w1.heap.size + 1 < w6.heap.size := (by have h := hb2.size; (try simp at h); omega)); (try have hy3 : w5.heap.size < w6.heap.size := (by have h := hb2.size; (try simp at h); omega)); (try have hy3' : w5.heap.size + 1 < w6.heap.size := (by have h := hb2.size; (try simp at h); omega)); (try have hy4 : w1.heap.size < w5.heap.size + 1 := (by omega));  (try have hy5 : w1.heap.size + 1 < w5.heap.size + 1 := (by omega))))
    all_goals
      go_wp2_with (fail)
      go_meet
      first
        | ((with_reducible refine TwoI.k22 ?_ hq hq2); (first | with_reducible exact hp.below hb2 | (with_reducible refine hp.below (belT1 _ hb2)) | (with_reducible refine hp.below (belT2 _ _ hb2))))
        | ((with_reducible refine TwoI.k22' ?_ hq hq2); (first | with_reducible exact hp.below hb2 | (with_reducible refine hp.below (belT1 _ hb2)) | (with_reducible refine hp.below (belT2 _ _ hb2))))
        | ((with_reducible refine TwoI.k02 ?_ hq hq2 ?_ ?_); (· (first | with_reducible exact hp.below hb2 | (with_reducible refine hp.below (belT1 _ hb2)) | (with_reducible refine hp.below (belT2 _ _ hb2)))); (· (repeat' (first | with_reducible exact Blk.new _ _ _ | with_reducible exact Blk.new1 _ _ _ _ | with_reducible refine Blk.alloc ?_ _ | with_reducible refine Blk.drew ?_ | with_reducible refine hBk2.out _ _ ?_ | with_reducible refine hBk1.out _ _ ?_))); (· (first | exact hq1.size | exact Nat.le_refl _ | exact Nat.le_succ _ | (have := hq1.size; omega))))
        | ((with_reducible refine TwoI.k20 ?_ hq hq2 ?_ ?_); (· (first | with_reducible exact hp.below hb2 | (with_reducible refine hp.below (belT1 _ hb2)) | (with_reducible refine hp.below (belT2 _ _ hb2)))); (· (repeat' (first | with_reducible exact Blk.new _ _ _ | with_reducible exact Blk.new1 _ _ _ _ | with_reducible refine Blk.alloc ?_ _ | with_reducible refine Blk.drew ?_ | with_reducible refine hBk2.out _ _ ?_ | with_reducible refine hBk1.out _ _ ?_))); (· (first | exact hq1.size | exact Nat.le_refl _ | exact Nat.le_succ _ | (have := hq1.size; omega))))
        | ((with_reducible refine TwoI.k00 ?_ hq hq2 ?_ ?_ ?_ ?_ ?_); (· (first | with_reducible exact hp.below hb2 | (with_reducible refine hp.below (belT1 _ hb2)) | (with_reducible refine hp.below (belT2 _ _ hb2)))); (· (repeat' (first | with_reducible exact Blk.new _ _ _ | with_reducible exact Blk.new1 _ _ _ _ | with_reducible refine Blk.alloc ?_ _ | with_reducible refine Blk.drew ?_ | with_reducible refine hBk2.out _ _ ?_ | with_reducible refine hBk1.out _ _ ?_))); (· (first | exact hq1.size | exact Nat.le_refl _ | exact Nat.le_succ _ | (have := hq1.size; omega))); (· (repeat' (first | with_reducible exact Blk.new _ _ _ | with_reducible exact Blk.new1 _ _ _ _ | with_reducible refine Blk.alloc ?_ _ | with_reducible refine Blk.drew ?_ | with_reducible refine hBk2.out _ _ ?_ | with_reducible refine hBk1.out _ _ ?_))); (· (first | exact hq1.size | exact Nat.le_refl _ | exact Nat.le_succ _ | (have := hq1.size; omega))); (· (have := hq1.size; omega)))
        
  case rest =>
  obtain ⟨g7, g8, b1, A1, n1, c1, A2, n2, c2, b2, A3, n3, c3, A4, n4, c4, rfl, rfl, F7, F8, hbx⟩ := hcut.ex
  clear K1 K2 hq0 fc0 fc1 gc0 gc1 hcut
  have hbw := hbw.trans (hbx.mono hbw.size)
  clear hbx B0 B1
  obtain ⟨B7, F7⟩ := F7
  obtain ⟨B8, F8⟩ := F8
  have uc0 : wc.cell? ⟨g7, 0, none⟩ = some (.bool b1) := B7.cell 0
  have uc1 : wc.cell? ⟨g7, 1, none⟩ = some (.slice A1 n1 c1) := B7.cell 1
  have uc2 : wc.cell? ⟨g7, 2, none⟩ = some (.slice A2 n2 c2) := B7.cell 2
  have vc0 : wc.cell? ⟨g8, 0, none⟩ = some (.bool b2) := B8.cell 0
  have vc1 : wc.cell? ⟨g8, 1, none⟩ = some (.slice A3 n3 c3) := B8.cell 1
  have vc2 : wc.cell? ⟨g8, 2, none⟩ = some (.slice A4 n4 c4) := B8.cell 2
  obtain ⟨x1, hx1⟩ : ∃ x, digVal (cutN n.data.toList).1 = x := ⟨_, rfl⟩
  obtain ⟨y1, hy1⟩ : ∃ x, digVal d.data.toList = x := ⟨_, rfl⟩
  obtain ⟨x2, hx2⟩ : ∃ x, digVal (cutN n'.data.toList).1 = x := ⟨_, rfl⟩
  obtain ⟨y2, hy2⟩ : ∃ x, digVal d'.data.toList = x := ⟨_, rfl⟩
  obtain ⟨e1, g1, g2, g3⟩ := F7.parts
  obtain ⟨e2, g4, g5, g6⟩ := F8.parts
  rw [hx1] at g1
  rw [hy1] at g2 g3
  rw [hx2] at g4
  rw [hy2] at g5 g6
  have p1 := neg_pos HO1.out
  have p2 := neg_pos HO2.out
  rw [hx1, ← e1] at p1
  rw [hx2, ← e2] at p2
  have HQ := Lib.hid (show ordQ (valR (rx n d)) (valR (rx n' d')) = ordN b1 x1 y1 b2 x2 y2 by
    rw [show valR (rx n d) = ratQ b1 x1 y1 by
      show ratQ (cutN n.data.toList).2 (digVal (cutN n.data.toList).1) (digVal d.data.toList) = _
      rw [hx1, hy1, ← e1], show valR (rx n' d') = ratQ b2 x2 y2 by
      show ratQ (cutN n'.data.toList).2 (digVal (cutN n'.data.toList).1) (digVal d'.data.toList) = _
      rw [hx2, hy2, ← e2]]
    exact ordQ_N b1 x1 y1 b2 x2 y2 g3 g6 p1 p2)
  have HG1 := Lib.hid g1
  have HG2 := Lib.hid g2
  have HG4 := Lib.hid g4
  have HG5 := Lib.hid g5
  clear g1 g2 g4 g5 e1 e2 hx1 hy1 hx2 hy2 F7 F8 p1 p2
  have K1 := Lib.hid (K_of (fun w' (hb : Below wc.heap.size wc w') => (rtimes_rep w' 223 223 _ _ _ _ (HG1.out.below hb) (HG5.out.below hb) (by omega) (by omega)).mono fun _ _ ⟨h, hb⟩ => ⟨sl_formI h, hb⟩))
  have K2 := Lib.hid (K_of (fun w' (hb : Below wc.heap.size wc w') => (rtimes_rep w' 223 223 _ _ _ _ (HG4.out.below hb) (HG2.out.below hb) (by omega) (by omega)).mono fun _ _ ⟨h, hb⟩ => ⟨sl_formI h, hb⟩))
  have hq0 : Below wc.heap.size wc wc.drew := (Below.refl _ _).drew
  obtain ⟨o, ho⟩ : ∃ o, ordI ((x1 * y2 : Nat) : Int) ((x2 * y1 : Nat) : Int) = o := ⟨_, rfl⟩
  have HOO := Lib.hid ho
  have ho1 : -1 ≤ o ∧ o ≤ 1 := by
    rw [← ho]; unfold ordI; split
    · omega
    · split <;> omega
  obtain ⟨ho1, ho2⟩ := ho1
  clear ho
  cases b1 <;> cases b2
  · have HN := Lib.hid (show ordN false x1 y1 false x2 y2 = o by
      unfold ordN
      rw [if_neg (by simp), HOO.out]; simp)
    go_upto_region 9 with (fail)
    go_region_held3 (fun w' => w'.cell? ⟨g7, 1, none⟩ = some (.slice A1 n1 c1) ∧ w'.cell? ⟨g7, 2, none⟩ = some (.slice A2 n2 c2) ∧ w'.cell? ⟨g8, 1, none⟩ = some (.slice A3 n3 c3) ∧ w'.cell? ⟨g8, 2, none⟩ = some (.slice A4 n4 c4) ∧ Below wc.heap.size wc w')
      (first | exact ⟨Below.cell_of hq3 uc1, Below.cell_of hq3 uc2, Below.cell_of hq3 vc1, Below.cell_of hq3 vc2, hq3⟩ | exact ⟨Below.cell_of hq2 uc1, Below.cell_of hq2 uc2, Below.cell_of hq2 vc1, Below.cell_of hq2 vc2, hq2⟩ | exact ⟨Below.cell_of hq1 uc1, Below.cell_of hq1 uc2, Below.cell_of hq1 vc1, Below.cell_of hq1 vc2, hq1⟩ | exact ⟨Below.cell_of hq0 uc1, Below.cell_of hq0 uc2, Below.cell_of hq0 vc1, Below.cell_of hq0 vc2, hq0⟩)
      (first
        | (go_at_call 38; (with_reducible refine (K1.out _ (by assumption)).mono ?_); rintro e w5 ⟨⟨Ap, np, cp, rfl, hp⟩, hq1, hb4⟩)
        | (go_at_call 38; (with_reducible refine (K2.out _ (by assumption)).mono ?_); rintro e w6 ⟨⟨Aq, nq, cq, rfl, hq⟩, hq2, hb5⟩)
        | (go_at_call 40; refine (rorder_rep _ 447 447 _ _ _ _ (hp.below hb5) hq (by omega) (by omega)).mono ?_; rintro e w7 ⟨rfl, hb6⟩; rw [HOO.out]; have hq3 := hq2.trans (hb6.mono hq2.size)))
    all_goals
      have uc0 := Below.cell_of hq3 uc0
      go_wp2_with (fail)
      go_ret2
      exact ⟨ret_val (by rw [HE.out, HQ.out, HN.out]; rfl), hbw.trans (hq3.mono hbw.size)⟩
  · have HN := Lib.hid (show ordN false x1 y1 true x2 y2 = 1 by
      unfold ordN
      rw [if_pos (by simp)]; simp)
    go_wp2_with (fail)
    go_ret2
    exact ⟨ret_val (by rw [HE.out, HQ.out, HN.out]; rfl), hbw⟩
  · have HN := Lib.hid (show ordN true x1 y1 false x2 y2 = -1 by
      unfold ordN
      rw [if_pos (by simp)]; simp)
    go_wp2_with (fail)
    go_ret2
    exact ⟨ret_val (by rw [HE.out, HQ.out, HN.out]; rfl), hbw⟩
  · have HN := Lib.hid (show ordN true x1 y1 true x2 y2 = -o by
      unfold ordN
      rw [if_neg (by simp), HOO.out]; simp)
    go_upto_region 9 with (fail)
    go_region_held3 (fun w' => w'.cell? ⟨g7, 1, none⟩ = some (.slice A1 n1 c1) ∧ w'.cell? ⟨g7, 2, none⟩ = some (.slice A2 n2 c2) ∧ w'.cell? ⟨g8, 1, none⟩ = some (.slice A3 n3 c3) ∧ w'.cell? ⟨g8, 2, none⟩ = some (.slice A4 n4 c4) ∧ Below wc.heap.size wc w')
      (first | exact ⟨Below.cell_of hq3 uc1, Below.cell_of hq3 uc2, Below.cell_of hq3 vc1, Below.cell_of hq3 vc2, hq3⟩ | exact ⟨Below.cell_of hq2 uc1, Below.cell_of hq2 uc2, Below.cell_of hq2 vc1, Below.cell_of hq2 vc2, hq2⟩ | exact ⟨Below.cell_of hq1 uc1, Below.cell_of hq1 uc2, Below.cell_of hq1 vc1, Below.cell_of hq1 vc2, hq1⟩ | exact ⟨Below.cell_of hq0 uc1, Below.cell_of hq0 uc2, Below.cell_of hq0 vc1, Below.cell_of hq0 vc2, hq0⟩)
      (first
        | (go_at_call 38; (with_reducible refine (K1.out _ (by assumption)).mono ?_); rintro e w5 ⟨⟨Ap, np, cp, rfl, hp⟩, hq1, hb4⟩)
        | (go_at_call 38; (with_reducible refine (K2.out _ (by assumption)).mono ?_); rintro e w6 ⟨⟨Aq, nq, cq, rfl, hq⟩, hq2, hb5⟩)
        | (go_at_call 40; refine (rorder_rep _ 447 447 _ _ _ _ (hp.below hb5) hq (by omega) (by omega)).mono ?_; rintro e w7 ⟨rfl, hb6⟩; rw [HOO.out]; have hq3 := hq2.trans (hb6.mono hq2.size)))
    all_goals
      have uc0 := Below.cell_of hq3 uc0
      go_wp2_with (fail)
      go_ret2
      exact ⟨ret_val (by rw [HE.out, HQ.out, HN.out]; rfl), hbw.trans (hq3.mono hbw.size)⟩
end Go.Proofs.YtmpelpmhbadjoaaGreatDoor
