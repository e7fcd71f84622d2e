/- The walk of the law 'ValueRatiosMatchSpec': it returns true at every two ratios' texts and every two integers. -/
import Derived.Test.YtmpelpmhbadjoaaGreatDoorRR4
import Derived.Test.YtmpelpmhbadjoaaGreatDoorRR5
import Derived.Test.YtmpelpmhbadjoaaGreatDoorRR6
namespace Go.Proofs.YtmpelpmhbadjoaaGreatDoor
open Go.RowKit Limb Dig Rtx

theorem outV_form (p : R × Nat) : ∃ S1 S2 : ByteArray, ∃ k : Nat, p = (rx S1 S2, k) ∧ outV p = .tuple #[.agg #[.string S1, .string S2], .int .i64 (k : Nat)] := ⟨⟨p.1.n.toArray⟩, ⟨p.1.d.toArray⟩, p.2, rfl, rfl⟩
set_option maxHeartbeats 8000000 in
set_option maxRecDepth 100000 in
theorem ratios_any (na da nb db : ByteArray) (num den : Int) (w : World) (h1 : na.size ≤ maxLen) (h2 : da.size ≤ maxLen) (h3 : nb.size ≤ maxLen) (h4 : db.size ≤ maxLen)
    (i1 : -9223372036854775808 ≤ num) (i2 : num ≤ 9223372036854775807) (i3 : -9223372036854775808 ≤ den) (i4 : den ≤ 9223372036854775807) (htab : Tab w) :
    Calls Tryz.prog 3 #[.agg #[.string na, .string da], .agg #[.string nb, .string db], .int .i64 num, .int .i64 den] w fun e w' => e = .returned (.bool true) ∧ Below w.heap.size w w' := by
  have HT := Lib.hid htab
  clear htab
  go_enter Tryz.func3, Tryz.ntmps3
  go_upto_region 1 with (fail)
  obtain ⟨W0, hW⟩ : ∃ W, W = ((w.alloc (.cells #[.string na, .string da] 23 (0, 0))).alloc (.cells #[.string nb, .string db] 23 (0, 0))) := ⟨_, rfl⟩
  have hbw : Below w.heap.size w W0 := by rw [hW]; exact (((Below.refl _ w).alloc (Nat.le_refl _) _).alloc (by simp) _)
  have Ba : Blk W0 (w.heap.size) 23 #[.string na, .string da] := by
    rw [hW]
    have := Blk.new w 23 #[.string na, .string da]
    have := this.alloc (.cells #[.string nb, .string db] 23 (0, 0))
    exact this
  have Bb : Blk W0 (w.heap.size + 1) 23 #[.string nb, .string db] := by
    rw [hW]
    have := Blk.new (w.alloc (.cells #[.string na, .string da] 23 (0, 0))) 23 #[.string nb, .string db]
    rwa [World.size_alloc] at this
  have hsz : W0.heap.size = w.heap.size + 2 := by rw [hW]; simp
  rw [← hW]
  clear hW
  have HSZ := Lib.hid hsz
  clear hsz
  go_wp2_with fail
  refine (ratioOf_any num den W0 i1 i2 i3 i4 (HT.out.below hbw)).mono ?_
  obtain ⟨S1, S2, k0, hq, hv⟩ := outV_form (ratioI num den)
  have QS1 := Lib.hid hq
  rw [hv]
  clear hq hv
  rintro e w1 ⟨rfl, hb⟩
  have Ba := Ba.below hb Ba.lt
  have Bb := Bb.below hb Bb.lt
  have hbw := hbw.trans (hb.mono hbw.size)
  clear hb
  go_upto_region 2 with (fail)
  obtain ⟨W1, hW⟩ : ∃ W', W' = w1.alloc (.cells #[.string S1, .string S2] 23 (0, 0)) := ⟨_, rfl⟩
  have Har := Lib.hid (show w.heap.size < w1.heap.size from Ba.lt)
  have Hbr := Lib.hid (show w.heap.size + 1 < w1.heap.size from Bb.lt)
  have Ba : Blk W1 (w.heap.size) 23 #[.string na, .string da] := hW ▸ Ba.alloc _
  have Bb : Blk W1 (w.heap.size + 1) 23 #[.string nb, .string db] := hW ▸ Bb.alloc _
  have Br : Blk W1 w1.heap.size 23 #[.string S1, .string S2] := hW ▸ Blk.new _ _ _
  have hger := Lib.hid hbw.size
  have hbw : Below w.heap.size w W1 := hW ▸ hbw.alloc hbw.size _
  rw [← hW]
  clear hW
  go_wp2_with fail
  refine (rratioOf_any num den W1 i1 i2 i3 i4 (HT.out.below hbw)).mono ?_
  rw [show outV (ratioI num den) = .tuple #[.agg #[.string S1, .string S2], .int .i64 ((k0 : Nat) : Int)] from QS1.out ▸ rfl]
  rintro e w2 ⟨rfl, hb⟩
  have Ba := Ba.below hb Ba.lt
  have Bb := Bb.below hb Bb.lt
  have Br := Br.below hb Br.lt
  have hbw := hbw.trans (hb.mono hbw.size)
  clear hb
  go_upto_region 3 with (fail)
  obtain ⟨W2, hW⟩ : ∃ W', W' = w2.alloc (.cells #[.string S1, .string S2] 23 (0, 0)) := ⟨_, rfl⟩
  have Has := Lib.hid (show w.heap.size < w2.heap.size from Ba.lt)
  have Hbs := Lib.hid (show w.heap.size + 1 < w2.heap.size from Bb.lt)
  have Hrs := Lib.hid (show w1.heap.size < w2.heap.size from Br.lt)
  have Ba : Blk W2 (w.heap.size) 23 #[.string na, .string da] := hW ▸ Ba.alloc _
  have Bb : Blk W2 (w.heap.size + 1) 23 #[.string nb, .string db] := hW ▸ Bb.alloc _
  have Br : Blk W2 (w1.heap.size) 23 #[.string S1, .string S2] := hW ▸ Br.alloc _
  have Bs : Blk W2 w2.heap.size 23 #[.string S1, .string S2] := hW ▸ Blk.new _ _ _
  have hges := Lib.hid hbw.size
  have hbw : Below w.heap.size w W2 := hW ▸ hbw.alloc hbw.size _
  rw [← hW]
  clear hW
  have ca0 : W2.cell? ⟨w.heap.size, 0, none⟩ = some (.string na) := Ba.cell 0
  have ca1 : W2.cell? ⟨w.heap.size, 1, none⟩ = some (.string da) := Ba.cell 1
  have cr0 : W2.cell? ⟨w1.heap.size, 0, none⟩ = some (.string S1) := Br.cell 0
  have cr1 : W2.cell? ⟨w1.heap.size, 1, none⟩ = some (.string S2) := Br.cell 1
  have cs0 : W2.cell? ⟨w2.heap.size, 0, none⟩ = some (.string S1) := Bs.cell 0
  have cs1 : W2.cell? ⟨w2.heap.size, 1, none⟩ = some (.string S2) := Bs.cell 1
  have hkk : (((k0 : Nat) : Int) != (k0 : Nat)) = false := by simp
  have la0 := Later.cell ca0
  have la1 := Later.cell ca1
  have lr0 := Later.cell cr0
  have lr1 := Later.cell cr1
  have ls0 := Later.cell cs0
  have ls1 := Later.cell cs1
  have HTW := Lib.hid (HT.out.below hbw)
  have K1 := Lib.hid (fun w' (hb : Below W2.heap.size W2 w') => check_any na da w' h1 h2)
  have K2 := Lib.hid (fun w' (hb : Below W2.heap.size W2 w') => rcheck_any na da w' h1 h2 (HTW.out.below hb))
  refine wp_region_later (by kernel_rfl) (by kernel_rfl) ?_
  repeat (go_big_quiet_step (first | with_reducible exact Later.call K1.out _ | with_reducible exact Later.call K2.out _))
  refine wpQuiet_nil ?_
  intro W8 hw'
  obtain ⟨p8, e8⟩ := hw'
  have hb8 : Below W2.heap.size W2 W8 := e8 ▸ p8.h
  clear e8 p8
  clear K1 K2 HTW hkk la0 la1 lr0 lr1 ls0 ls1
  clear ca0 ca1 cr0 cr1 cs0 cs1
  have Ba := Ba.below hb8 Ba.lt
  have Bb := Bb.below hb8 Bb.lt
  have Br := Br.below hb8 Br.lt
  have Bs := Bs.below hb8 Bs.lt
  have hbw := hbw.trans (hb8.mono hbw.size)
  clear hb8
  go_upto_region 5 with (fail)
  have ca0 : W8.cell? ⟨w.heap.size, 0, none⟩ = some (.string na) := Ba.cell 0
  have ca1 : W8.cell? ⟨w.heap.size, 1, none⟩ = some (.string da) := Ba.cell 1
  have cb0 : W8.cell? ⟨w.heap.size + 1, 0, none⟩ = some (.string nb) := Bb.cell 0
  have cb1 : W8.cell? ⟨w.heap.size + 1, 1, none⟩ = some (.string db) := Bb.cell 1
  go_wp2_with fail
  refine (Sum_any na da nb db W8 h1 h2 h3 h4 (HT.out.below hbw)).mono ?_
  obtain ⟨P1, Q1x, k1, hq, hv⟩ := outV_form (sumR (rx na da) (rx nb db))
  have QP1 := Lib.hid hq
  rw [hv]
  clear hq hv
  rintro e w3 ⟨rfl, hb⟩
  clear ca0 ca1 cb0 cb1
  have Ba := Ba.below hb Ba.lt
  have Bb := Bb.below hb Bb.lt
  have Br := Br.below hb Br.lt
  have Bs := Bs.below hb Bs.lt
  have hbw := hbw.trans (hb.mono hbw.size)
  clear hb
  have cr0 : w3.cell? ⟨w1.heap.size, 0, none⟩ = some (.string S1) := Br.cell 0
  have cr1 : w3.cell? ⟨w1.heap.size, 1, none⟩ = some (.string S2) := Br.cell 1
  have zr0 : w3.frozen? ⟨w1.heap.size, 0, none⟩ = false := Br.frozen 0
  have zr1 : w3.frozen? ⟨w1.heap.size, 1, none⟩ = false := Br.frozen 1
  go_upto_region 6 with (fail)
  obtain ⟨W3, hW⟩ : ∃ W', W' = (w3.setCell ⟨w1.heap.size, 0, none⟩ (.string P1)).setCell ⟨w1.heap.size, 1, none⟩ (.string Q1x) := ⟨_, rfl⟩
  have Ba : Blk W3 (w.heap.size) 23 #[.string na, .string da] := hW ▸ Ba.far2 (Nat.ne_of_lt Har.out) _ _
  have Bb : Blk W3 (w.heap.size + 1) 23 #[.string nb, .string db] := hW ▸ Bb.far2 (Nat.ne_of_lt Hbr.out) _ _
  have Br : Blk W3 (w1.heap.size) 23 #[.string P1, .string Q1x] := hW ▸ Br.store2 _ _
  have Bs : Blk W3 (w2.heap.size) 23 #[.string S1, .string S2] := hW ▸ Bs.far2 (Nat.ne_of_gt Hrs.out) _ _
  have hbw : Below w.heap.size w W3 := hW ▸ hbw.store2 hger.out _ _
  rw [← hW]
  clear hW
  clear cr0 cr1 zr0 zr1
  have ca0 : W3.cell? ⟨w.heap.size, 0, none⟩ = some (.string na) := Ba.cell 0
  have ca1 : W3.cell? ⟨w.heap.size, 1, none⟩ = some (.string da) := Ba.cell 1
  have cb0 : W3.cell? ⟨w.heap.size + 1, 0, none⟩ = some (.string nb) := Bb.cell 0
  have cb1 : W3.cell? ⟨w.heap.size + 1, 1, none⟩ = some (.string db) := Bb.cell 1
  go_wp2_with fail
  refine (rsum_any na da nb db W3 h1 h2 h3 h4 (HT.out.below hbw)).mono ?_
  rw [show outV (sumR (rx na da) (rx nb db)) = .tuple #[.agg #[.string P1, .string Q1x], .int .i64 ((k1 : Nat) : Int)] from QP1.out ▸ rfl]
  rintro e w4 ⟨rfl, hb⟩
  clear ca0 ca1 cb0 cb1
  have Ba := Ba.below hb Ba.lt
  have Bb := Bb.below hb Bb.lt
  have Br := Br.below hb Br.lt
  have Bs := Bs.below hb Bs.lt
  have hbw := hbw.trans (hb.mono hbw.size)
  clear hb
  have cs0 : w4.cell? ⟨w2.heap.size, 0, none⟩ = some (.string S1) := Bs.cell 0
  have cs1 : w4.cell? ⟨w2.heap.size, 1, none⟩ = some (.string S2) := Bs.cell 1
  have zs0 : w4.frozen? ⟨w2.heap.size, 0, none⟩ = false := Bs.frozen 0
  have zs1 : w4.frozen? ⟨w2.heap.size, 1, none⟩ = false := Bs.frozen 1
  go_upto_region 7 with (fail)
  obtain ⟨W4, hW⟩ : ∃ W', W' = (w4.setCell ⟨w2.heap.size, 0, none⟩ (.string P1)).setCell ⟨w2.heap.size, 1, none⟩ (.string Q1x) := ⟨_, rfl⟩
  have Ba : Blk W4 (w.heap.size) 23 #[.string na, .string da] := hW ▸ Ba.far2 (Nat.ne_of_lt Has.out) _ _
  have Bb : Blk W4 (w.heap.size + 1) 23 #[.string nb, .string db] := hW ▸ Bb.far2 (Nat.ne_of_lt Hbs.out) _ _
  have Br : Blk W4 (w1.heap.size) 23 #[.string P1, .string Q1x] := hW ▸ Br.far2 (Nat.ne_of_lt Hrs.out) _ _
  have Bs : Blk W4 (w2.heap.size) 23 #[.string P1, .string Q1x] := hW ▸ Bs.store2 _ _
  have hbw : Below w.heap.size w W4 := hW ▸ hbw.store2 hges.out _ _
  rw [← hW]
  clear hW
  clear cs0 cs1 zs0 zs1
  have cr0 : W4.cell? ⟨w1.heap.size, 0, none⟩ = some (.string P1) := Br.cell 0
  have cr1 : W4.cell? ⟨w1.heap.size, 1, none⟩ = some (.string Q1x) := Br.cell 1
  have cs0 : W4.cell? ⟨w2.heap.size, 0, none⟩ = some (.string P1) := Bs.cell 0
  have cs1 : W4.cell? ⟨w2.heap.size, 1, none⟩ = some (.string Q1x) := Bs.cell 1
  have hkk : (((k1 : Nat) : Int) != (k1 : Nat)) = false := by simp
  go_upto_region 9 with (fail)
  clear cr0 cr1 cs0 cs1
  clear hkk
  have ca0 : W4.cell? ⟨w.heap.size, 0, none⟩ = some (.string na) := Ba.cell 0
  have ca1 : W4.cell? ⟨w.heap.size, 1, none⟩ = some (.string da) := Ba.cell 1
  have cb0 : W4.cell? ⟨w.heap.size + 1, 0, none⟩ = some (.string nb) := Bb.cell 0
  have cb1 : W4.cell? ⟨w.heap.size + 1, 1, none⟩ = some (.string db) := Bb.cell 1
  go_wp2_with fail
  refine (Prod_any na da nb db W4 h1 h2 h3 h4 (HT.out.below hbw)).mono ?_
  obtain ⟨P2, Q2x, k2, hq, hv⟩ := outV_form (prodR (rx na da) (rx nb db))
  have QP2 := Lib.hid hq
  rw [hv]
  clear hq hv
  rintro e w5 ⟨rfl, hb⟩
  clear ca0 ca1 cb0 cb1
  have Ba := Ba.below hb Ba.lt
  have Bb := Bb.below hb Bb.lt
  have Br := Br.below hb Br.lt
  have Bs := Bs.below hb Bs.lt
  have hbw := hbw.trans (hb.mono hbw.size)
  clear hb
  have cr0 : w5.cell? ⟨w1.heap.size, 0, none⟩ = some (.string P1) := Br.cell 0
  have cr1 : w5.cell? ⟨w1.heap.size, 1, none⟩ = some (.string Q1x) := Br.cell 1
  have zr0 : w5.frozen? ⟨w1.heap.size, 0, none⟩ = false := Br.frozen 0
  have zr1 : w5.frozen? ⟨w1.heap.size, 1, none⟩ = false := Br.frozen 1
  go_upto_region 10 with (fail)
  obtain ⟨W5, hW⟩ : ∃ W', W' = (w5.setCell ⟨w1.heap.size, 0, none⟩ (.string P2)).setCell ⟨w1.heap.size, 1, none⟩ (.string Q2x) := ⟨_, rfl⟩
  have Ba : Blk W5 (w.heap.size) 23 #[.string na, .string da] := hW ▸ Ba.far2 (Nat.ne_of_lt Har.out) _ _
  have Bb : Blk W5 (w.heap.size + 1) 23 #[.string nb, .string db] := hW ▸ Bb.far2 (Nat.ne_of_lt Hbr.out) _ _
  have Br : Blk W5 (w1.heap.size) 23 #[.string P2, .string Q2x] := hW ▸ Br.store2 _ _
  have Bs : Blk W5 (w2.heap.size) 23 #[.string P1, .string Q1x] := hW ▸ Bs.far2 (Nat.ne_of_gt Hrs.out) _ _
  have hbw : Below w.heap.size w W5 := hW ▸ hbw.store2 hger.out _ _
  rw [← hW]
  clear hW
  clear cr0 cr1 zr0 zr1
  have ca0 : W5.cell? ⟨w.heap.size, 0, none⟩ = some (.string na) := Ba.cell 0
  have ca1 : W5.cell? ⟨w.heap.size, 1, none⟩ = some (.string da) := Ba.cell 1
  have cb0 : W5.cell? ⟨w.heap.size + 1, 0, none⟩ = some (.string nb) := Bb.cell 0
  have cb1 : W5.cell? ⟨w.heap.size + 1, 1, none⟩ = some (.string db) := Bb.cell 1
  go_wp2_with fail
  refine (rprod_any na da nb db W5 h1 h2 h3 h4 (HT.out.below hbw)).mono ?_
  rw [show outV (prodR (rx na da) (rx nb db)) = .tuple #[.agg #[.string P2, .string Q2x], .int .i64 ((k2 : Nat) : Int)] from QP2.out ▸ rfl]
  rintro e w6 ⟨rfl, hb⟩
  clear ca0 ca1 cb0 cb1
  have Ba := Ba.below hb Ba.lt
  have Bb := Bb.below hb Bb.lt
  have Br := Br.below hb Br.lt
  have Bs := Bs.below hb Bs.lt
  have hbw := hbw.trans (hb.mono hbw.size)
  clear hb
  have cs0 : w6.cell? ⟨w2.heap.size, 0, none⟩ = some (.string P1) := Bs.cell 0
  have cs1 : w6.cell? ⟨w2.heap.size, 1, none⟩ = some (.string Q1x) := Bs.cell 1
  have zs0 : w6.frozen? ⟨w2.heap.size, 0, none⟩ = false := Bs.frozen 0
  have zs1 : w6.frozen? ⟨w2.heap.size, 1, none⟩ = false := Bs.frozen 1
  go_upto_region 11 with (fail)
  obtain ⟨W6, hW⟩ : ∃ W', W' = (w6.setCell ⟨w2.heap.size, 0, none⟩ (.string P2)).setCell ⟨w2.heap.size, 1, none⟩ (.string Q2x) := ⟨_, rfl⟩
  have Ba : Blk W6 (w.heap.size) 23 #[.string na, .string da] := hW ▸ Ba.far2 (Nat.ne_of_lt Has.out) _ _
  have Bb : Blk W6 (w.heap.size + 1) 23 #[.string nb, .string db] := hW ▸ Bb.far2 (Nat.ne_of_lt Hbs.out) _ _
  have Br : Blk W6 (w1.heap.size) 23 #[.string P2, .string Q2x] := hW ▸ Br.far2 (Nat.ne_of_lt Hrs.out) _ _
  have Bs : Blk W6 (w2.heap.size) 23 #[.string P2, .string Q2x] := hW ▸ Bs.store2 _ _
  have hbw : Below w.heap.size w W6 := hW ▸ hbw.store2 hges.out _ _
  rw [← hW]
  clear hW
  clear cs0 cs1 zs0 zs1
  have cr0 : W6.cell? ⟨w1.heap.size, 0, none⟩ = some (.string P2) := Br.cell 0
  have cr1 : W6.cell? ⟨w1.heap.size, 1, none⟩ = some (.string Q2x) := Br.cell 1
  have cs0 : W6.cell? ⟨w2.heap.size, 0, none⟩ = some (.string P2) := Bs.cell 0
  have cs1 : W6.cell? ⟨w2.heap.size, 1, none⟩ = some (.string Q2x) := Bs.cell 1
  have hkk : (((k2 : Nat) : Int) != (k2 : Nat)) = false := by simp
  go_upto_region 13 with (fail)
  clear cr0 cr1 cs0 cs1
  clear hkk
  have ca0 : W6.cell? ⟨w.heap.size, 0, none⟩ = some (.string na) := Ba.cell 0
  have ca1 : W6.cell? ⟨w.heap.size, 1, none⟩ = some (.string da) := Ba.cell 1
  go_wp2_with fail
  refine (Inv_any na da W6 h1 h2 (HT.out.below hbw)).mono ?_
  obtain ⟨P3, Q3x, k3, hq, hv⟩ := outV_form (invR (rx na da))
  have QP3 := Lib.hid hq
  rw [hv]
  clear hq hv
  rintro e w7 ⟨rfl, hb⟩
  clear ca0 ca1
  have Ba := Ba.below hb Ba.lt
  have Bb := Bb.below hb Bb.lt
  have Br := Br.below hb Br.lt
  have Bs := Bs.below hb Bs.lt
  have hbw := hbw.trans (hb.mono hbw.size)
  clear hb
  have cr0 : w7.cell? ⟨w1.heap.size, 0, none⟩ = some (.string P2) := Br.cell 0
  have cr1 : w7.cell? ⟨w1.heap.size, 1, none⟩ = some (.string Q2x) := Br.cell 1
  have zr0 : w7.frozen? ⟨w1.heap.size, 0, none⟩ = false := Br.frozen 0
  have zr1 : w7.frozen? ⟨w1.heap.size, 1, none⟩ = false := Br.frozen 1
  go_upto_region 14 with (fail)
  obtain ⟨W7, hW⟩ : ∃ W', W' = (w7.setCell ⟨w1.heap.size, 0, none⟩ (.string P3)).setCell ⟨w1.heap.size, 1, none⟩ (.string Q3x) := ⟨_, rfl⟩
  have Ba : Blk W7 (w.heap.size) 23 #[.string na, .string da] := hW ▸ Ba.far2 (Nat.ne_of_lt Har.out) _ _
  have Bb : Blk W7 (w.heap.size + 1) 23 #[.string nb, .string db] := hW ▸ Bb.far2 (Nat.ne_of_lt Hbr.out) _ _
  have Br : Blk W7 (w1.heap.size) 23 #[.string P3, .string Q3x] := hW ▸ Br.store2 _ _
  have Bs : Blk W7 (w2.heap.size) 23 #[.string P2, .string Q2x] := hW ▸ Bs.far2 (Nat.ne_of_gt Hrs.out) _ _
  have hbw : Below w.heap.size w W7 := hW ▸ hbw.store2 hger.out _ _
  rw [← hW]
  clear hW
  clear cr0 cr1 zr0 zr1
  have ca0 : W7.cell? ⟨w.heap.size, 0, none⟩ = some (.string na) := Ba.cell 0
  have ca1 : W7.cell? ⟨w.heap.size, 1, none⟩ = some (.string da) := Ba.cell 1
  go_wp2_with fail
  refine (rinv_any na da W7 h1 h2 (HT.out.below hbw)).mono ?_
  rw [show outV (invR (rx na da)) = .tuple #[.agg #[.string P3, .string Q3x], .int .i64 ((k3 : Nat) : Int)] from QP3.out ▸ rfl]
  rintro e w8 ⟨rfl, hb⟩
  clear ca0 ca1
  have Ba := Ba.below hb Ba.lt
  have Bb := Bb.below hb Bb.lt
  have Br := Br.below hb Br.lt
  have Bs := Bs.below hb Bs.lt
  have hbw := hbw.trans (hb.mono hbw.size)
  clear hb
  have cs0 : w8.cell? ⟨w2.heap.size, 0, none⟩ = some (.string P2) := Bs.cell 0
  have cs1 : w8.cell? ⟨w2.heap.size, 1, none⟩ = some (.string Q2x) := Bs.cell 1
  have zs0 : w8.frozen? ⟨w2.heap.size, 0, none⟩ = false := Bs.frozen 0
  have zs1 : w8.frozen? ⟨w2.heap.size, 1, none⟩ = false := Bs.frozen 1
  go_upto_region 15 with (fail)
  obtain ⟨W8, hW⟩ : ∃ W', W' = (w8.setCell ⟨w2.heap.size, 0, none⟩ (.string P3)).setCell ⟨w2.heap.size, 1, none⟩ (.string Q3x) := ⟨_, rfl⟩
  have Ba : Blk W8 (w.heap.size) 23 #[.string na, .string da] := hW ▸ Ba.far2 (Nat.ne_of_lt Has.out) _ _
  have Bb : Blk W8 (w.heap.size + 1) 23 #[.string nb, .string db] := hW ▸ Bb.far2 (Nat.ne_of_lt Hbs.out) _ _
  have Br : Blk W8 (w1.heap.size) 23 #[.string P3, .string Q3x] := hW ▸ Br.far2 (Nat.ne_of_lt Hrs.out) _ _
  have Bs : Blk W8 (w2.heap.size) 23 #[.string P3, .string Q3x] := hW ▸ Bs.store2 _ _
  have hbw : Below w.heap.size w W8 := hW ▸ hbw.store2 hges.out _ _
  rw [← hW]
  clear hW
  clear cs0 cs1 zs0 zs1
  have cr0 : W8.cell? ⟨w1.heap.size, 0, none⟩ = some (.string P3) := Br.cell 0
  have cr1 : W8.cell? ⟨w1.heap.size, 1, none⟩ = some (.string Q3x) := Br.cell 1
  have cs0 : W8.cell? ⟨w2.heap.size, 0, none⟩ = some (.string P3) := Bs.cell 0
  have cs1 : W8.cell? ⟨w2.heap.size, 1, none⟩ = some (.string Q3x) := Bs.cell 1
  have hkk : (((k3 : Nat) : Int) != (k3 : Nat)) = false := by simp
  go_upto_region 17 with (fail)
  clear cr0 cr1 cs0 cs1
  clear hkk
  obtain ⟨⟨o, ko⟩, hord⟩ : ∃ q, ordR (rx na da) (rx nb db) = q := ⟨_, rfl⟩
  have QO := Lib.hid hord
  clear hord
  have ca0 : W8.cell? ⟨w.heap.size, 0, none⟩ = some (.string na) := Ba.cell 0
  have ca1 : W8.cell? ⟨w.heap.size, 1, none⟩ = some (.string da) := Ba.cell 1
  have cb0 : W8.cell? ⟨w.heap.size + 1, 0, none⟩ = some (.string nb) := Bb.cell 0
  have cb1 : W8.cell? ⟨w.heap.size + 1, 1, none⟩ = some (.string db) := Bb.cell 1
  go_wp2_with fail
  refine (Order_any na da nb db W8 h1 h2 h3 h4).mono ?_
  rw [QO.out, show ordV (o, ko) = .tuple #[.int .i64 o, .int .i64 (ko : Nat)] from rfl]
  rintro e w9 ⟨rfl, hb⟩
  clear ca0 ca1 cb0 cb1
  have Ba := Ba.below hb Ba.lt
  have Bb := Bb.below hb Bb.lt
  have Br := Br.below hb Br.lt
  have Bs := Bs.below hb Bs.lt
  have hbw := hbw.trans (hb.mono hbw.size)
  clear hb
  go_upto_region 18 with (fail)
  have ca0 : w9.cell? ⟨w.heap.size, 0, none⟩ = some (.string na) := Ba.cell 0
  have ca1 : w9.cell? ⟨w.heap.size, 1, none⟩ = some (.string da) := Ba.cell 1
  have cb0 : w9.cell? ⟨w.heap.size + 1, 0, none⟩ = some (.string nb) := Bb.cell 0
  have cb1 : w9.cell? ⟨w.heap.size + 1, 1, none⟩ = some (.string db) := Bb.cell 1
  go_wp2_with fail
  refine (rorder_any na da nb db w9 h1 h2 h3 h4 (HT.out.below hbw)).mono ?_
  rw [QO.out, show ordV (o, ko) = .tuple #[.int .i64 o, .int .i64 (ko : Nat)] from rfl]
  rintro e w10 ⟨rfl, hb⟩
  clear ca0 ca1 cb0 cb1
  have Ba := Ba.below hb Ba.lt
  have Bb := Bb.below hb Bb.lt
  have Br := Br.below hb Br.lt
  have Bs := Bs.below hb Bs.lt
  have hbw := hbw.trans (hb.mono hbw.size)
  clear hb
  have hko : (((ko : Nat) : Int) == (ko : Nat)) = true := by simp
  have hoo : (o == o) = true := by simp
  go_wp2
  go_ret
  exact ⟨ret_bool (by simp), hbw⟩
end Go.Proofs.YtmpelpmhbadjoaaGreatDoor
