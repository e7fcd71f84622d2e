/- The walk of fraction.plus: the sum of two fractions. -/
import Derived.Test.YtmpelpmhbadjoaaGreatDoorTwo
import Derived.Deep.RegionHeld3
namespace Go.Proofs.YtmpelpmhbadjoaaGreatDoor
open Go.RowKit Limb Dig Rtx

theorem sl_form {e : Ending} {w : World} {L x : Nat} (h : ∃ v, e = .returned v ∧ Rep w L v x) : ∃ A n c, e = .returned (.slice A n c) ∧ Rep w L (.slice A n c) x := by
  obtain ⟨v, he, hv⟩ := h
  obtain ⟨A, n, c, rfl, _⟩ := hv.form
  exact ⟨A, n, c, he, hv⟩
theorem K_of {P : Program} {f : FuncId} {args : Array Value} {W : World} {Q : Ending → World → Prop} (h : ∀ w', Below W.heap.size W w' → Calls P f args w' fun e w'' => Q e w'' ∧ Below w'.heap.size w' w'') :
    ∀ w', Below W.heap.size W w' → Calls P f args w' fun e w'' => Q e w'' ∧ Below W.heap.size W w'' ∧ Below w'.heap.size w' w'' :=
  fun w' hb => (h w' hb).mono fun _ _ ⟨hq, hb'⟩ => ⟨hq, hb.trans (hb'.mono hb.size), hb'⟩
/-- what plus hands back: a fraction of the value q -/
structure PlusV (w : World) (L : Nat) (e : Ending) (q : Rat) : Prop where
  ex : ∃ r b x y, e = .returned r ∧ Frac w L r b x y ∧ ratQ b x y = q
/-- the three naturals behind the first test -/
structure PlusC (W1 wc : World) (L : Nat) (p q r : Value) (q1 q2 : Rat) (b1 b2 : Bool) : Prop where
  ex : ∃ A n c A' n' c' A'' n'' c'' xa xb yd, p = .slice A n c ∧ q = .slice A' n' c' ∧ r = .slice A'' n'' c'' ∧ Rep wc (2 * L) (.slice A n c) xa ∧ Rep wc (2 * L) (.slice A' n' c') xb ∧ Rep wc (2 * L) (.slice A'' n'' c'') yd ∧ 0 < yd ∧ ratQ b1 xa yd = q1 ∧ ratQ b2 xb yd = q2 ∧ Below W1.heap.size W1 wc
theorem ordI_self (x : Int) : ordI x x = 0 := by unfold ordI; rw [if_neg (by omega), if_neg (by omega)]
theorem ordI_ne {x y : Int} (h : x ≠ y) : (ordI x y != 0) = true := by
  unfold ordI
  by_cases h1 : x < y
  · rw [if_pos h1]; decide
  · rw [if_neg h1, if_pos (by omega)]; decide
set_option maxHeartbeats 4000000 in
set_option maxRecDepth 100000 in
theorem plus_any (w : World) (L x1 y1 x2 y2 : Nat) (v1 v2 : Value) (b1 b2 : Bool) (h1 : Frac w L v1 b1 x1 y1) (h2 : Frac w L v2 b2 x2 y2) (hL : L ≤ 1000) :
    Calls Tryz.prog 35 #[v1, v2] w fun e w' => PlusV w' (2 * L + 1) e (ratQ b1 x1 y1 + ratQ b2 x2 y2) ∧ Below w.heap.size w w' := by
  obtain ⟨vn1, vd1, rfl, hn1, hd1, hy1⟩ := h1.ex
  obtain ⟨vn2, vd2, rfl, hn2, hd2, hy2⟩ := h2.ex
  have HN1 := Lib.hid hn1
  have HD1 := Lib.hid hd1
  have HN2 := Lib.hid hn2
  have HD2 := Lib.hid hd2
  obtain ⟨A1, n1, c1, rfl, -, -⟩ := hn1.form
  obtain ⟨D1, m1, k1, rfl, -, -⟩ := hd1.form
  obtain ⟨A2, n2, c2, rfl, -, -⟩ := hn2.form
  obtain ⟨D2, m2, k2, rfl, -, -⟩ := hd2.form
  clear hn1 hd1 hn2 hd2 h1 h2
  go_enter Tryz.func35, Tryz.ntmps35
  obtain ⟨W, hW⟩ : ∃ W, W = (((w.alloc (.cells #[.bool b1, .slice A1 n1 c1, .slice D1 m1 k1] 47 (0, 0))).alloc (.cells #[.bool b2, .slice A2 n2 c2, .slice D2 m2 k2] 47 (0, 0))).alloc (.cells #[.bool false, .slice none 0 0, .slice none 0 0] 47 (0, 0))) := ⟨_, rfl⟩
  have hbw : Below w.heap.size w W := by rw [hW]; exact ((((Below.refl _ w).alloc (Nat.le_refl _) _).alloc (by simp) _).alloc (by simp; omega) _)
  have B0 : Blk W (w.heap.size) 47 #[.bool b1, .slice A1 n1 c1, .slice D1 m1 k1] := by
    rw [hW]
    have := Blk.new w 47 #[.bool b1, .slice A1 n1 c1, .slice D1 m1 k1]
    have := this.alloc (.cells #[.bool b2, .slice A2 n2 c2, .slice D2 m2 k2] 47 (0, 0))
    have := this.alloc (.cells #[.bool false, .slice none 0 0, .slice none 0 0] 47 (0, 0))
    exact this
  have B1 : Blk W (w.heap.size + 1) 47 #[.bool b2, .slice A2 n2 c2, .slice D2 m2 k2] := by
    rw [hW]
    have := Blk.new (w.alloc (.cells #[.bool b1, .slice A1 n1 c1, .slice D1 m1 k1] 47 (0, 0))) 47 #[.bool b2, .slice A2 n2 c2, .slice D2 m2 k2]
    have := this.alloc (.cells #[.bool false, .slice none 0 0, .slice none 0 0] 47 (0, 0))
    rwa [World.size_alloc] at this
  have B2 : Blk W (w.heap.size + 2) 47 #[.bool false, .slice none 0 0, .slice none 0 0] := by
    rw [hW]
    have := Blk.new ((w.alloc (.cells #[.bool b1, .slice A1 n1 c1, .slice D1 m1 k1] 47 (0, 0))).alloc (.cells #[.bool b2, .slice A2 n2 c2, .slice D2 m2 k2] 47 (0, 0))) 47 #[.bool false, .slice none 0 0, .slice none 0 0]
    rwa [World.size_alloc, World.size_alloc] at this
  have hsz : W.heap.size = w.heap.size + 3 := by rw [hW]; simp
  go_upto_region 1 with (fail)
  rw [← hW]
  clear hW
  have fc0 : W.cell? ⟨w.heap.size, 0, none⟩ = some (.bool b1) := B0.cell 0
  have fc1 : W.cell? ⟨w.heap.size, 1, none⟩ = some (.slice A1 n1 c1) := B0.cell 1
  have fc2 : W.cell? ⟨w.heap.size, 2, none⟩ = some (.slice D1 m1 k1) := B0.cell 2
  have gc0 : W.cell? ⟨w.heap.size + 1, 0, none⟩ = some (.bool b2) := B1.cell 0
  have gc1 : W.cell? ⟨w.heap.size + 1, 1, none⟩ = some (.slice A2 n2 c2) := B1.cell 1
  have gc2 : W.cell? ⟨w.heap.size + 1, 2, none⟩ = some (.slice D2 m2 k2) := B1.cell 2
  go_quiet (fail)
  obtain ⟨W1, hW1⟩ : ∃ W1, W1 = W.drewN nq := ⟨_, rfl⟩
  have hbw : Below w.heap.size w W1 := hW1 ▸ hbw.drewN nq
  have B0 : Blk W1 (w.heap.size) 47 #[.bool b1, .slice A1 n1 c1, .slice D1 m1 k1] := hW1 ▸ B0.drewN nq
  have B1 : Blk W1 (w.heap.size + 1) 47 #[.bool b2, .slice A2 n2 c2, .slice D2 m2 k2] := hW1 ▸ B1.drewN nq
  have B2 : Blk W1 (w.heap.size + 2) 47 #[.bool false, .slice none 0 0, .slice none 0 0] := hW1 ▸ B2.drewN nq
  have hsz : W1.heap.size = w.heap.size + 3 := hW1 ▸ hsz
  rw [← hW1]
  clear hW1 fc0 fc1 fc2 gc0 gc1 gc2
  have fc0 : W1.cell? ⟨w.heap.size, 0, none⟩ = some (.bool b1) := B0.cell 0
  have fc1 : W1.cell? ⟨w.heap.size, 1, none⟩ = some (.slice A1 n1 c1) := B0.cell 1
  have fc2 : W1.cell? ⟨w.heap.size, 2, none⟩ = some (.slice D1 m1 k1) := B0.cell 2
  have gc0 : W1.cell? ⟨w.heap.size + 1, 0, none⟩ = some (.bool b2) := B1.cell 0
  have gc1 : W1.cell? ⟨w.heap.size + 1, 1, none⟩ = some (.slice A2 n2 c2) := B1.cell 1
  have gc2 : W1.cell? ⟨w.heap.size + 1, 2, none⟩ = some (.slice D2 m2 k2) := B1.cell 2
  have HN1 := Lib.hid (HN1.out.below hbw)
  have HD1 := Lib.hid (HD1.out.below hbw)
  have HN2 := Lib.hid (HN2.out.below hbw)
  have HD2 := Lib.hid (HD2.out.below hbw)
  have HSZ := Lib.hid hsz
  clear hsz
  go_wp2_with fail
  refine (compare_rep W1 L L _ _ _ _ HD1.out HD2.out (by omega) (by omega)).mono ?_
  rintro e w2 ⟨rfl, hb2⟩
  have fc1 := Below.cell_of hb2 fc1
  have fc2 := Below.cell_of hb2 fc2
  have gc1 := Below.cell_of hb2 gc1
  have gc2 := Below.cell_of hb2 gc2
  go_upto_if 19 with (fail)
  go_cut [5, 6, 7] (fun p q r wc => PlusC W1 wc L p q r (ratQ b1 x1 y1) (ratQ b2 x2 y2) b1 b2)
  case first =>
    by_cases hyy : y1 = y2
    · have ho : ordI ((y1 : Nat) : Int) ((y2 : Nat) : Int) = 0 := by rw [hyy]; exact ordI_self _
      rw [ho]
      have HYY := Lib.hid hyy
      clear ho hyy
      go_wp2_with (fail)
      go_meet
      exact ⟨⟨_, _, _, _, _, _, _, _, _, x1, x2, y1, rfl, rfl, rfl, (HN1.out.below hb2).mono (by omega), (HN2.out.below hb2).mono (by omega), (HD1.out.below hb2).mono (by omega), hy1, rfl, by rw [HYY.out], hb2⟩⟩
    · have ho := ordI_ne (x := ((y1 : Nat) : Int)) (y := ((y2 : Nat) : Int)) (by omega)
      clear hyy
      have K1 := Lib.hid (K_of (fun w' (hb : Below w2.heap.size w2 w') => (times_rep w' L L _ _ _ _ ((HN1.out.below hb2).below hb) ((HD2.out.below hb2).below hb) (by omega) (by omega)).mono fun _ _ ⟨h, hb⟩ => ⟨sl_form h, hb⟩))
      have K2 := Lib.hid (K_of (fun w' (hb : Below w2.heap.size w2 w') => (times_rep w' L L _ _ _ _ ((HN2.out.below hb2).below hb) ((HD1.out.below hb2).below hb) (by omega) (by omega)).mono fun _ _ ⟨h, hb⟩ => ⟨sl_form h, hb⟩))
      have hq0 : Below w2.heap.size w2 w2.drew := (Below.refl _ _).drew
      go_upto_region 3 with (fail)
      go_region_held3 (fun w' => w'.cell? ⟨w.heap.size, 1, none⟩ = some (.slice A1 n1 c1) ∧ w'.cell? ⟨w.heap.size, 2, none⟩ = some (.slice D1 m1 k1) ∧ w'.cell? ⟨w.heap.size + 1, 1, none⟩ = some (.slice A2 n2 c2) ∧ w'.cell? ⟨w.heap.size + 1, 2, none⟩ = some (.slice D2 m2 k2) ∧ Below w2.heap.size w2 w')
        (first | exact ⟨Below.cell_of hq1 fc1, Below.cell_of hq1 fc2, Below.cell_of hq1 gc1, Below.cell_of hq1 gc2, hq1⟩ | exact ⟨Below.cell_of hq2 fc1, Below.cell_of hq2 fc2, Below.cell_of hq2 gc1, Below.cell_of hq2 gc2, hq2⟩ | exact ⟨Below.cell_of hq0 fc1, Below.cell_of hq0 fc2, Below.cell_of hq0 gc1, Below.cell_of hq0 gc2, hq0⟩)
        (first | (go_at_call 42; (with_reducible refine (K1.out _ (by assumption)).mono ?_); rintro e w' ⟨⟨Ap, np, cp, rfl, hp⟩, hq1, hb1⟩) | (go_at_call 42; (with_reducible refine (K2.out _ (by assumption)).mono ?_); rintro e w' ⟨⟨Aq, nq', cq, rfl, hq⟩, hq2, hb3⟩))
      have HP := Lib.hid (hp.below hb3)
      have HQ := Lib.hid hq
      clear hp hq
      have fc2 := Below.cell_of hq2 fc2
      have gc2 := Below.cell_of hq2 gc2
      go_wp2_with fail
      refine (times_rep w' L L _ _ _ _ ((HD1.out.below hb2).below hq2) ((HD2.out.below hb2).below hq2) (by omega) (by omega)).mono ?_
      rintro e w5 ⟨hv, hb5⟩
      obtain ⟨Av, nv, cv, rfl, hv2⟩ := sl_form hv
      have HV := Lib.hid hv2
      clear hv hv2
      go_wp2_with (fail)
      go_meet
      exact ⟨⟨_, _, _, _, _, _, _, _, _, x1 * y2, x2 * y1, y1 * y2, rfl, rfl, rfl, (HP.out.below hb5).mono (by omega), (HQ.out.below hb5).mono (by omega), HV.out.mono (by omega), Nat.mul_pos hy1 hy2, ratQ_cross _ _ _ _ hy1 hy2, by rw [Nat.mul_comm y1 y2]; exact ratQ_cross _ _ _ _ hy2 hy1, (hb2.trans (hq2.mono hb2.size)).trans (hb5.mono (Nat.le_trans hb2.size hq2.size))⟩⟩
  case rest =>
  obtain ⟨A, n, c, A', n', c', A'', n'', c'', xa, xb, yd, rfl, rfl, rfl, ha, hb, hd, hy, e1, e2, hbc⟩ := hcut.ex
  have HA := Lib.hid ha
  have HB := Lib.hid hb
  have HD := Lib.hid hd
  have HE1 := Lib.hid e1
  have HE2 := Lib.hid e2
  clear ha hb hd e1 e2 hcut HN1 HD1 HN2 HD2 fc0 fc1 fc2 gc0 gc1 gc2
  have B0 := B0.below hbc B0.lt
  have B1 := B1.below hbc B1.lt
  have B2 := B2.below hbc B2.lt
  have hbw := hbw.trans (hbc.mono (by have := HSZ.out; omega))
  clear hbc HSZ hb2
  have fc0 : wc.cell? ⟨w.heap.size, 0, none⟩ = some (.bool b1) := B0.cell 0
  have fc1 : wc.cell? ⟨w.heap.size, 1, none⟩ = some (.slice A1 n1 c1) := B0.cell 1
  have fc2 : wc.cell? ⟨w.heap.size, 2, none⟩ = some (.slice D1 m1 k1) := B0.cell 2
  have gc0 : wc.cell? ⟨w.heap.size + 1, 0, none⟩ = some (.bool b2) := B1.cell 0
  have gc1 : wc.cell? ⟨w.heap.size + 1, 1, none⟩ = some (.slice A2 n2 c2) := B1.cell 1
  have gc2 : wc.cell? ⟨w.heap.size + 1, 2, none⟩ = some (.slice D2 m2 k2) := B1.cell 2
  have rc0 : wc.cell? ⟨w.heap.size + 2, 0, none⟩ = some (.bool false) := B2.cell 0
  have rz0 : wc.frozen? ⟨w.heap.size + 2, 0, none⟩ = false := B2.frozen 0
  have rc1 : wc.cell? ⟨w.heap.size + 2, 1, none⟩ = some (.slice none 0 0) := B2.cell 1
  have rz1 : wc.frozen? ⟨w.heap.size + 2, 1, none⟩ = false := B2.frozen 1
  have rc2 : wc.cell? ⟨w.heap.size + 2, 2, none⟩ = some (.slice none 0 0) := B2.cell 2
  have rz2 : wc.frozen? ⟨w.heap.size + 2, 2, none⟩ = false := B2.frozen 2
  obtain ⟨s, hs⟩ : ∃ s, (b1 == b2) = s := ⟨_, rfl⟩
  have HB12 := Lib.hid (show s = true ↔ b1 = b2 by rw [← hs]; simp)
  obtain ⟨w0, hw0⟩ : ∃ w0, w0 = wc := ⟨_, rfl⟩
  rw [← hw0] at HA HB HD
  subst hw0
  go_upto_if 35 with (fail)
  cases s
  · have HNE := Lib.hid (show b2 = !b1 by
      have := HB12.out
      cases b1 <;> cases b2 <;> simp at this ⊢)
    by_cases hle : xb ≤ xa
    · have ho : decide (0 ≤ ordI ((xa : Nat) : Int) ((xb : Nat) : Int)) = true := by
        unfold ordI
        rw [if_neg (by omega)]
        split <;> decide
      have HLE := Lib.hid hle
      clear hle
      go_wp2_with fail
      refine (compare_rep w0 (2 * L) (2 * L) _ _ _ _ HA.out HB.out (by omega) (by omega)).mono ?_
      rintro e w2 ⟨rfl, hb2⟩
      have HA := Lib.hid (HA.out.below hb2)
      have HB := Lib.hid (HB.out.below hb2)
      have HD := Lib.hid (HD.out.below hb2)
      have B2 := B2.below hb2 B2.lt
      have fc0 := Below.cell_of hb2 fc0
      have gc0 := Below.cell_of hb2 gc0
      have rc0 := Below.cell_of hb2 rc0
      have rc1 := Below.cell_of hb2 rc1
      have rc2 := Below.cell_of hb2 rc2
      have hbw := hbw.trans (hb2.mono hbw.size)
      clear rz0 rz1 rz2 hb2
      have K1 := Lib.hid (K_of (fun w' (hb : Below w2.heap.size w2 w') => ((minus_rep w' (2 * L) (2 * L) _ _ _ _ (HA.out.below hb) (HB.out.below hb) (by omega) (by omega) HLE.out).mono fun _ _ ⟨⟨v, he, hv⟩, hb⟩ => (⟨⟨v, he, hv.mono (show 2 * L ≤ 2 * L + 1 by omega)⟩, hb⟩ : (∃ v, _ = Ending.returned v ∧ Rep _ (2 * L + 1) v (xa - xb)) ∧ _)).mono fun _ _ ⟨h, hb⟩ => ⟨sl_form h, hb⟩))
      have hq0 : Below w2.heap.size w2 w2.drew := (Below.refl _ _).drew
      go_upto_region 8 with (fail)
      go_region_held3 (fun w' => w'.cell? ⟨w.heap.size, 0, none⟩ = some (.bool b1) ∧ Below w.heap.size w w')
        (first | exact ⟨Below.cell_of hq1 fc0, hbw.trans (hq1.mono hbw.size)⟩ | exact ⟨Below.cell_of hq0 fc0, hbw.drew⟩ | exact ⟨by simp [go_sem, Below.cell_of hq1 fc0], (hbw.trans (hq1.mono hbw.size)).store3 (by omega) _ _ _⟩)
        (first | (go_at_call 67; (with_reducible refine (K1.out _ (by assumption)).mono ?_); rintro e w' ⟨⟨Ap, np, cp, rfl, hp⟩, hq1, hb1⟩; have R2 := B2.below hq1 B2.lt; have rc0 := Below.cell_of hq1 rc0; have rc1 := Below.cell_of hq1 rc1; have rc2 := Below.cell_of hq1 rc2; have rz0 := R2.frozen 0; have rz1 := R2.frozen 1; have rz2 := R2.frozen 2))
      all_goals
        have HP := Lib.hid hp
        have HD := Lib.hid (HD.out.below hq1)
        have hbw := hbw.trans (hq1.mono hbw.size)
        clear hp
        go_wp2_with (fail)
        obtain ⟨W9, hW9⟩ : ∃ W9, W9 = ((w'.setCell ⟨w.heap.size + 2, 0, none⟩ (.bool b1)).setCell ⟨w.heap.size + 2, 1, none⟩ (.slice Ap np cp)).setCell ⟨w.heap.size + 2, 2, none⟩ (.slice A'' n'' c'') := ⟨_, rfl⟩
        have HP := Lib.hid (hW9 ▸ ((HP.out.box rc0 (.bool b1)).box ((R2.set_ 0 _).cell 1) (.slice Ap np cp)).box (((R2.set_ 0 _).set_ 1 _).cell 2) (.slice A'' n'' c'') : Rep W9 (2 * L + 1) (.slice Ap np cp) (xa - xb))
        have HD := Lib.hid (hW9 ▸ ((HD.out.box rc0 (.bool b1)).box ((R2.set_ 0 _).cell 1) (.slice Ap np cp)).box (((R2.set_ 0 _).set_ 1 _).cell 2) (.slice A'' n'' c'') : Rep W9 (2 * L) (.slice A'' n'' c'') yd)
        have B9 : Blk W9 (w.heap.size + 2) 47 #[.bool b1, .slice Ap np cp, .slice A'' n'' c''] := hW9 ▸ R2.store3 _ _ _
        have hbw : Below w.heap.size w W9 := hW9 ▸ hbw.store3 (by omega) _ _ _
        first | rw [← hW9] | skip
        clear hW9 R2 rc0 rc1 rc2 rz0 rz1 rz2
        have qc0 : W9.cell? ⟨w.heap.size + 2, 0, none⟩ = some (.bool b1) := B9.cell 0
        have qc1 : W9.cell? ⟨w.heap.size + 2, 1, none⟩ = some (.slice Ap np cp) := B9.cell 1
        have qc2 : W9.cell? ⟨w.heap.size + 2, 2, none⟩ = some (.slice A'' n'' c'') := B9.cell 2
        refine bodyPost_ret (v := .agg #[.bool b1, .slice Ap np cp, .slice A'' n'' c'']) (by simp [results, Tryz.results35, go_sem, qc0, qc1, qc2]) rfl ⟨⟨_, b1, xa - xb, yd, rfl, ⟨⟨_, _, rfl, HP.out, HD.out.mono (by omega), hy⟩⟩, ?_⟩, hbw⟩
        rw [← HE1.out, ← HE2.out, HNE.out]; exact (ratQ_diff _ _ _ _ hy HLE.out).symm
    · have ho : decide (0 ≤ ordI ((xa : Nat) : Int) ((xb : Nat) : Int)) = false := by
        unfold ordI
        rw [if_pos (by omega)]
        decide
      have HLE := Lib.hid (show xa ≤ xb by omega)
      clear hle
      go_wp2_with fail
      refine (compare_rep w0 (2 * L) (2 * L) _ _ _ _ HA.out HB.out (by omega) (by omega)).mono ?_
      rintro e w2 ⟨rfl, hb2⟩
      have HA := Lib.hid (HA.out.below hb2)
      have HB := Lib.hid (HB.out.below hb2)
      have HD := Lib.hid (HD.out.below hb2)
      have B2 := B2.below hb2 B2.lt
      have fc0 := Below.cell_of hb2 fc0
      have gc0 := Below.cell_of hb2 gc0
      have rc0 := Below.cell_of hb2 rc0
      have rc1 := Below.cell_of hb2 rc1
      have rc2 := Below.cell_of hb2 rc2
      have hbw := hbw.trans (hb2.mono hbw.size)
      clear rz0 rz1 rz2 hb2
      have K1 := Lib.hid (K_of (fun w' (hb : Below w2.heap.size w2 w') => ((minus_rep w' (2 * L) (2 * L) _ _ _ _ (HB.out.below hb) (HA.out.below hb) (by omega) (by omega) HLE.out).mono fun _ _ ⟨⟨v, he, hv⟩, hb⟩ => (⟨⟨v, he, hv.mono (show 2 * L ≤ 2 * L + 1 by omega)⟩, hb⟩ : (∃ v, _ = Ending.returned v ∧ Rep _ (2 * L + 1) v (xb - xa)) ∧ _)).mono fun _ _ ⟨h, hb⟩ => ⟨sl_form h, hb⟩))
      have hq0 : Below w2.heap.size w2 w2.drew := (Below.refl _ _).drew
      go_upto_region 9 with (fail)
      go_region_held3 (fun w' => w'.cell? ⟨w.heap.size + 1, 0, none⟩ = some (.bool b2) ∧ Below w.heap.size w w')
        (first | exact ⟨Below.cell_of hq1 gc0, hbw.trans (hq1.mono hbw.size)⟩ | exact ⟨Below.cell_of hq0 gc0, hbw.drew⟩ | exact ⟨by simp [go_sem, Below.cell_of hq1 gc0], (hbw.trans (hq1.mono hbw.size)).store3 (by omega) _ _ _⟩)
        (first | (go_at_call 67; (with_reducible refine (K1.out _ (by assumption)).mono ?_); rintro e w' ⟨⟨Ap, np, cp, rfl, hp⟩, hq1, hb1⟩; have R2 := B2.below hq1 B2.lt; have rc0 := Below.cell_of hq1 rc0; have rc1 := Below.cell_of hq1 rc1; have rc2 := Below.cell_of hq1 rc2; have rz0 := R2.frozen 0; have rz1 := R2.frozen 1; have rz2 := R2.frozen 2))
      all_goals
        have HP := Lib.hid hp
        have HD := Lib.hid (HD.out.below hq1)
        have hbw := hbw.trans (hq1.mono hbw.size)
        clear hp
        go_wp2_with (fail)
        obtain ⟨W9, hW9⟩ : ∃ W9, W9 = ((w'.setCell ⟨w.heap.size + 2, 0, none⟩ (.bool b2)).setCell ⟨w.heap.size + 2, 1, none⟩ (.slice Ap np cp)).setCell ⟨w.heap.size + 2, 2, none⟩ (.slice A'' n'' c'') := ⟨_, rfl⟩
        have HP := Lib.hid (hW9 ▸ ((HP.out.box rc0 (.bool b2)).box ((R2.set_ 0 _).cell 1) (.slice Ap np cp)).box (((R2.set_ 0 _).set_ 1 _).cell 2) (.slice A'' n'' c'') : Rep W9 (2 * L + 1) (.slice Ap np cp) (xb - xa))
        have HD := Lib.hid (hW9 ▸ ((HD.out.box rc0 (.bool b2)).box ((R2.set_ 0 _).cell 1) (.slice Ap np cp)).box (((R2.set_ 0 _).set_ 1 _).cell 2) (.slice A'' n'' c'') : Rep W9 (2 * L) (.slice A'' n'' c'') yd)
        have B9 : Blk W9 (w.heap.size + 2) 47 #[.bool b2, .slice Ap np cp, .slice A'' n'' c''] := hW9 ▸ R2.store3 _ _ _
        have hbw : Below w.heap.size w W9 := hW9 ▸ hbw.store3 (by omega) _ _ _
        first | rw [← hW9] | skip
        clear hW9 R2 rc0 rc1 rc2 rz0 rz1 rz2
        have qc0 : W9.cell? ⟨w.heap.size + 2, 0, none⟩ = some (.bool b2) := B9.cell 0
        have qc1 : W9.cell? ⟨w.heap.size + 2, 1, none⟩ = some (.slice Ap np cp) := B9.cell 1
        have qc2 : W9.cell? ⟨w.heap.size + 2, 2, none⟩ = some (.slice A'' n'' c'') := B9.cell 2
        refine bodyPost_ret (v := .agg #[.bool b2, .slice Ap np cp, .slice A'' n'' c'']) (by simp [results, Tryz.results35, go_sem, qc0, qc1, qc2]) rfl ⟨⟨_, b2, xb - xa, yd, rfl, ⟨⟨_, _, rfl, HP.out, HD.out.mono (by omega), hy⟩⟩, ?_⟩, hbw⟩
        rw [← HE1.out, ← HE2.out]; have h := ratQ_diff b2 xb xa yd hy HLE.out; rw [← h, HNE.out, Bool.not_not, Rat.add_comm]
  · have K1 := Lib.hid (K_of (fun w' (hb : Below w0.heap.size w0 w') => ((plus_rep w' (2 * L) (2 * L) _ _ _ _ (HA.out.below hb) (HB.out.below hb) (by omega) (by omega)).mono fun _ _ ⟨⟨v, he, hv⟩, hb⟩ => (⟨⟨v, he, hv.mono (show max (2 * L) (2 * L) + 1 ≤ 2 * L + 1 by omega)⟩, hb⟩ : (∃ v, _ = Ending.returned v ∧ Rep _ (2 * L + 1) v (xa + xb)) ∧ _)).mono fun _ _ ⟨h, hb⟩ => ⟨sl_form h, hb⟩))
    have hq0 : Below w0.heap.size w0 w0.drew := (Below.refl _ _).drew
    go_upto_region 6 with (fail)
    go_region_held3 (fun w' => w'.cell? ⟨w.heap.size, 0, none⟩ = some (.bool b1) ∧ Below w.heap.size w w')
      (first | exact ⟨Below.cell_of hq1 fc0, hbw.trans (hq1.mono hbw.size)⟩ | exact ⟨Below.cell_of hq0 fc0, hbw.drew⟩ | exact ⟨by simp [go_sem, Below.cell_of hq1 fc0], (hbw.trans (hq1.mono hbw.size)).store3 (by omega) _ _ _⟩)
      (first | (go_at_call 66; (with_reducible refine (K1.out _ (by assumption)).mono ?_); rintro e w' ⟨⟨Ap, np, cp, rfl, hp⟩, hq1, hb1⟩; have R2 := B2.below hq1 B2.lt; have rc0 := Below.cell_of hq1 rc0; have rc1 := Below.cell_of hq1 rc1; have rc2 := Below.cell_of hq1 rc2; have rz0 := R2.frozen 0; have rz1 := R2.frozen 1; have rz2 := R2.frozen 2))
    all_goals
      have HP := Lib.hid hp
      have HD := Lib.hid (HD.out.below hq1)
      have hbw := hbw.trans (hq1.mono hbw.size)
      clear hp
      go_wp2_with (fail)
      obtain ⟨W9, hW9⟩ : ∃ W9, W9 = ((w'.setCell ⟨w.heap.size + 2, 0, none⟩ (.bool b1)).setCell ⟨w.heap.size + 2, 1, none⟩ (.slice Ap np cp)).setCell ⟨w.heap.size + 2, 2, none⟩ (.slice A'' n'' c'') := ⟨_, rfl⟩
      have HP := Lib.hid (hW9 ▸ ((HP.out.box rc0 (.bool b1)).box ((R2.set_ 0 _).cell 1) (.slice Ap np cp)).box (((R2.set_ 0 _).set_ 1 _).cell 2) (.slice A'' n'' c'') : Rep W9 (2 * L + 1) (.slice Ap np cp) (xa + xb))
      have HD := Lib.hid (hW9 ▸ ((HD.out.box rc0 (.bool b1)).box ((R2.set_ 0 _).cell 1) (.slice Ap np cp)).box (((R2.set_ 0 _).set_ 1 _).cell 2) (.slice A'' n'' c'') : Rep W9 (2 * L) (.slice A'' n'' c'') yd)
      have B9 : Blk W9 (w.heap.size + 2) 47 #[.bool b1, .slice Ap np cp, .slice A'' n'' c''] := hW9 ▸ R2.store3 _ _ _
      have hbw : Below w.heap.size w W9 := hW9 ▸ hbw.store3 (by omega) _ _ _
      first | rw [← hW9] | skip
      clear hW9 R2 rc0 rc1 rc2 rz0 rz1 rz2
      have qc0 : W9.cell? ⟨w.heap.size + 2, 0, none⟩ = some (.bool b1) := B9.cell 0
      have qc1 : W9.cell? ⟨w.heap.size + 2, 1, none⟩ = some (.slice Ap np cp) := B9.cell 1
      have qc2 : W9.cell? ⟨w.heap.size + 2, 2, none⟩ = some (.slice A'' n'' c'') := B9.cell 2
      refine bodyPost_ret (v := .agg #[.bool b1, .slice Ap np cp, .slice A'' n'' c'']) (by simp [results, Tryz.results35, go_sem, qc0, qc1, qc2]) rfl ⟨⟨_, b1, xa + xb, yd, rfl, ⟨⟨_, _, rfl, HP.out, HD.out.mono (by omega), hy⟩⟩, ?_⟩, hbw⟩
      rw [← HE1.out, ← HE2.out, ← HB12.out.1 (by trivial)]; exact (ratQ_same _ _ _ _ hy).symm
end Go.Proofs.YtmpelpmhbadjoaaGreatDoor
