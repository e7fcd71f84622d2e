/- Operations on values: apply. · What the walk of an evaluation needs of a right expression. Plain. · Eval: constants, answers, rows. -/
import Derived.Test.YtpanbeoelbhhgaaGreatDoorY22
import Derived.Test.YtpanbeoelbhhgaaGreatDoorY21
import Derived.Test.YtpanbeoelbhhgaaGreatDoorY20
namespace Go.Proofs.YtpanbeoelbhhgaaGreatDoor
open Go.RowKit
attribute [local go_sem ↓] Go.wp_at_zero Go.wp_at_succ
set_option maxHeartbeats 4000000
set_option maxRecDepth 100000
/-- what an operation asks of its arguments -/
structure ArgOk (op : Int) (vs : List Val) : Prop where
  l1 : 1 ≤ vs.length
  l2 : (4 ≤ op ∧ op ≤ 11) ∨ (15 ≤ op ∧ op ≤ 19) ∨ (31 ≤ op ∧ op ≤ 33) ∨ 37 ≤ op → 2 ≤ vs.length
  n : ∀ v ∈ vs, nB v.n ∧ v.s.size ≤ 1000000 ∧ v.l.length ≤ 1000000
  c : op = 29 → vs.any missV = false → -999 ≤ (argAt vs 0).n ∧ (argAt vs 0).n ≤ 999
  d : 34 ≤ op → vs.any missV = false → dB (argAt vs 0).n
  d2 : op = 37 ∨ op = 38 → vs.any missV = false → dB (argAt vs 1).n
theorem arg_at {vs : List Val} {i : Nat} (h : i < vs.length) : argAt vs i = vs[i] := by unfold argAt; rw [List.getD_eq_getElem?_getD, List.getElem?_eq_getElem h]; rfl
theorem apply_lost (op : Int) (vs : List Val) (A : Option Addr) (c B0 B : Nat) (w : World) (hA : ArgsAt B0 w B A vs) (hB : B ≤ w.heap.size) (hB0 : B0 ≤ B) (_hm : Mx w) (_hok : ArgOk op vs) (h1 : op ≠ 1) (h2 : op ≠ 2) (h3 : op ≠ 3) (h4 : ¬ ((4 ≤ op ∧ op ≤ 11) ∨ op = 32 ∨ op = 33)) (hlost : vs.any missV = true) :
    Calls Tryz.prog 53 #[.int .i64 op, .slice A vs.length c] w fun e w' => (∃ x, e = .returned x ∧ VRet w' B0 (applyV op vs) x) ∧ Below w.heap.size w w' := by
  have hB0w : B0 ≤ w.heap.size := Nat.le_trans hB0 hB
  have hll := hA.1
  unfold maxLen at hll
  obtain ⟨W, hW⟩ : ∃ W, W = w.alloc (.cells #[.int .i64 0, .int .i64 0, .string ⟨#[]⟩, .slice none 0 0] 24 (0, 0)) := ⟨_, rfl⟩
  have hbw : Below w.heap.size w W := hW ▸ below_a w _
  have BR : Blk W w.heap.size 24 #[.int .i64 0, .int .i64 0, .string ⟨#[]⟩, .slice none 0 0] := hW ▸ Blk.new w _ _
  have hAW := hA.keep hB0 (hbw.mono hB)
  have HL := Lib.hid (containsFunc_any pred_missing vs A c B0 B W hAW (Nat.le_trans hB hbw.size) hB0)
  obtain ⟨lo, hlo⟩ : ∃ lo, vs.any missV = lo := ⟨_, rfl⟩
  have HLO := Lib.hid hlo
  rw [hlo] at HL
  have HV := Lib.hid (show applyV op vs = zeroV by unfold applyV; rw [if_neg h1, if_neg h2, if_neg h3, if_neg h4, if_pos hlost])
  obtain rfl : lo = true := hlo.symm.trans hlost
  have k1 : (op == 1) = false := by simpa using h1
  have k2 : (op == 2) = false := by simpa using h2
  have k3 : (op == 3) = false := by simpa using h3
  have k5 : (op == 32) = false := by simp; omega
  have k6 : (op == 33) = false := by simp; omega
  by_cases k4 : 4 ≤ op
  case' pos =>
    have k7 : ¬ op ≤ 11 := by omega
  all_goals
    clear hA hAW _hm _hok hlo h1 h2 h3 h4 hlost
    go_enter Tryz.func53, Tryz.ntmps53
    go_upto_region 1 with (fail)
    rw [← hW]
    clear hW
    go_wp2_with (go_at_call 79; (with_reducible refine HL.out.mono ?_); rintro e w2 ⟨rfl, hb2⟩; have hbw2 := hbw.trans (hb2.mono hbw.size); have B0 := BR.below hb2 BR.lt; obtain ⟨r0, s0, r1, s1, r2, s2, r3, s3⟩ := Blk.z4 B0)
    exact end4 Tryz.results53 rfl B0 hbw2 (Nat.le_refl _) (fun W5 hW5 => ⟨⟨_, rfl, by rw [HV.out]; exact VRet.zero⟩, hW5⟩)
theorem apply_3 (op : Int) (vs : List Val) (A : Option Addr) (c B0 B : Nat) (w : World) (hA : ArgsAt B0 w B A vs) (hB : B ≤ w.heap.size) (hB0 : B0 ≤ B) (_hm : Mx w) (hok : ArgOk op vs) (ho : op = 3) :
    Calls Tryz.prog 53 #[.int .i64 op, .slice A vs.length c] w fun e w' => (∃ x, e = .returned x ∧ VRet w' B0 (applyV op vs) x) ∧ Below w.heap.size w w' := by
  have hB0w : B0 ≤ w.heap.size := Nat.le_trans hB0 hB
  have hll := hA.1
  unfold maxLen at hll
  obtain ⟨W, hW⟩ : ∃ W, W = w.alloc (.cells #[.int .i64 0, .int .i64 0, .string ⟨#[]⟩, .slice none 0 0] 24 (0, 0)) := ⟨_, rfl⟩
  have hbw : Below w.heap.size w W := hW ▸ below_a w _
  have BR : Blk W w.heap.size 24 #[.int .i64 0, .int .i64 0, .string ⟨#[]⟩, .slice none 0 0] := hW ▸ Blk.new w _ _
  have hAW := hA.keep hB0 (hbw.mono hB)
  have HL := Lib.hid (containsFunc_any pred_missing vs A c B0 B W hAW (Nat.le_trans hB hbw.size) hB0)
  obtain ⟨lo, hlo⟩ : ∃ lo, vs.any missV = lo := ⟨_, rfl⟩
  have HLO := Lib.hid hlo
  rw [hlo] at HL
  subst ho
  have HV := Lib.hid (show applyV 3 vs = truthV (vs.any isT) by unfold applyV; rw [if_neg (by decide), if_neg (by decide), if_pos rfl])
  have HT := Lib.hid (fun W' (hb : Below w.heap.size w W') => containsFunc_any pred_true vs A c B0 B W' (hA.keep hB0 (hb.mono hB)) (Nat.le_trans hB hb.size) hB0)
  obtain ⟨q, hq⟩ : ∃ q, vs.any isT = q := ⟨_, rfl⟩
  rw [hq] at HT HV
  clear hA hAW _hm hok hlo hq
  · skip
    go_enter Tryz.func53, Tryz.ntmps53
    go_upto_region 1 with (fail)
    rw [← hW]
    clear hW
    go_wp2_with (first | (go_at_call 79; (with_reducible refine HL.out.mono ?_); rintro e w2 ⟨rfl, hb2⟩; have hbw2 := hbw.trans (hb2.mono hbw.size); have B0 := BR.below hb2 BR.lt; obtain ⟨r0, s0, r1, s1, r2, s2, r3, s3⟩ := Blk.z4 B0) | (go_at_call 79; (with_reducible refine (HT.out _ hbw2).mono ?_); rintro e w3 ⟨rfl, hb3⟩; have hbw3 := hbw2.trans (hb3.mono hbw2.size); have B0 := B0.below hb3 B0.lt) | (go_at_call 76; (with_reducible refine (truth_any _ _).mono ?_); rintro e w4 ⟨rfl, hb4⟩; have hbw4 := hbw3.trans (hb4.mono hbw3.size); have B0 := B0.below hb4 B0.lt; obtain ⟨r0, s0, r1, s1, r2, s2, r3, s3⟩ := Blk.z4 B0; unfold vz))
    exact end4 Tryz.results53 rfl B0 hbw4 (Nat.le_refl _) (fun W5 hW5 => ⟨⟨_, rfl, by rw [HV.out]; exact VRet.truth _⟩, hW5⟩)
theorem apply_2 (op : Int) (vs : List Val) (A : Option Addr) (c B0 B : Nat) (w : World) (hA : ArgsAt B0 w B A vs) (hB : B ≤ w.heap.size) (hB0 : B0 ≤ B) (_hm : Mx w) (hok : ArgOk op vs) (ho : op = 2) :
    Calls Tryz.prog 53 #[.int .i64 op, .slice A vs.length c] w fun e w' => (∃ x, e = .returned x ∧ VRet w' B0 (applyV op vs) x) ∧ Below w.heap.size w w' := by
  have hB0w : B0 ≤ w.heap.size := Nat.le_trans hB0 hB
  have hll := hA.1
  unfold maxLen at hll
  obtain ⟨W, hW⟩ : ∃ W, W = w.alloc (.cells #[.int .i64 0, .int .i64 0, .string ⟨#[]⟩, .slice none 0 0] 24 (0, 0)) := ⟨_, rfl⟩
  have hbw : Below w.heap.size w W := hW ▸ below_a w _
  have BR : Blk W w.heap.size 24 #[.int .i64 0, .int .i64 0, .string ⟨#[]⟩, .slice none 0 0] := hW ▸ Blk.new w _ _
  have hAW := hA.keep hB0 (hbw.mono hB)
  have HL := Lib.hid (containsFunc_any pred_missing vs A c B0 B W hAW (Nat.le_trans hB hbw.size) hB0)
  obtain ⟨lo, hlo⟩ : ∃ lo, vs.any missV = lo := ⟨_, rfl⟩
  have HLO := Lib.hid hlo
  rw [hlo] at HL
  subst ho
  have HV := Lib.hid (show applyV 2 vs = truthV (vs.all isT) by unfold applyV; rw [if_neg (by decide), if_pos rfl])
  have HT := Lib.hid (fun W' (hb : Below w.heap.size w W') => containsFunc_any pred_false vs A c B0 B W' (hA.keep hB0 (hb.mono hB)) (Nat.le_trans hB hb.size) hB0)
  have HQ := Lib.hid (show (!vs.any fun v => !isT v) = vs.all isT by rw [List.not_any_eq_all_not]; simp)
  obtain ⟨q, hq⟩ : ∃ q, (vs.any fun v => !isT v) = q := ⟨_, rfl⟩
  rw [hq] at HT HQ
  clear hA hAW _hm hok hlo hq
  · skip
    go_enter Tryz.func53, Tryz.ntmps53
    go_upto_region 1 with (fail)
    rw [← hW]
    clear hW
    go_wp2_with (first | (go_at_call 79; (with_reducible refine HL.out.mono ?_); rintro e w2 ⟨rfl, hb2⟩; have hbw2 := hbw.trans (hb2.mono hbw.size); have B0 := BR.below hb2 BR.lt; obtain ⟨r0, s0, r1, s1, r2, s2, r3, s3⟩ := Blk.z4 B0) | (go_at_call 79; (with_reducible refine (HT.out _ hbw2).mono ?_); rintro e w3 ⟨rfl, hb3⟩; have hbw3 := hbw2.trans (hb3.mono hbw2.size); have B0 := B0.below hb3 B0.lt) | (go_at_call 76; (with_reducible refine (truth_any _ _).mono ?_); rintro e w4 ⟨rfl, hb4⟩; have hbw4 := hbw3.trans (hb4.mono hbw3.size); have B0 := B0.below hb4 B0.lt; obtain ⟨r0, s0, r1, s1, r2, s2, r3, s3⟩ := Blk.z4 B0; unfold vz))
    exact end4 Tryz.results53 rfl B0 hbw4 (Nat.le_refl _) (fun W5 hW5 => ⟨⟨_, rfl, by rw [HV.out, ← HQ.out]; exact VRet.truth _⟩, hW5⟩)
theorem apply_24 (op : Int) (vs : List Val) (A : Option Addr) (c B0 B : Nat) (w : World) (hA : ArgsAt B0 w B A vs) (hB : B ≤ w.heap.size) (hB0 : B0 ≤ B) (_hm : Mx w) (_hok : ArgOk op vs) (ho : op = 24 ∨ op = 25) (hlost : vs.any missV = false) :
    Calls Tryz.prog 53 #[.int .i64 op, .slice A vs.length c] w fun e w' => (∃ x, e = .returned x ∧ VRet w' B0 (applyV op vs) x) ∧ Below w.heap.size w w' := by
  have hB0w : B0 ≤ w.heap.size := Nat.le_trans hB0 hB
  have hll := hA.1
  unfold maxLen at hll
  obtain ⟨W, hW⟩ : ∃ W, W = w.alloc (.cells #[.int .i64 0, .int .i64 0, .string ⟨#[]⟩, .slice none 0 0] 24 (0, 0)) := ⟨_, rfl⟩
  have hbw : Below w.heap.size w W := hW ▸ below_a w _
  have BR : Blk W w.heap.size 24 #[.int .i64 0, .int .i64 0, .string ⟨#[]⟩, .slice none 0 0] := hW ▸ Blk.new w _ _
  have hAW := hA.keep hB0 (hbw.mono hB)
  have HL := Lib.hid (containsFunc_any pred_missing vs A c B0 B W hAW (Nat.le_trans hB hbw.size) hB0)
  obtain ⟨lo, hlo⟩ : ∃ lo, vs.any missV = lo := ⟨_, rfl⟩
  have HLO := Lib.hid hlo
  rw [hlo] at HL
  obtain rfl : lo = false := hlo.symm.trans hlost
  have HV := Lib.hid (show applyV op vs = extremeV (decide (op = 25)) vs by unfold applyV; rw [if_neg (by omega), if_neg (by omega), if_neg (by omega), if_neg (by omega), if_neg (by rw [hlost]; decide), if_pos ho])
  have HE := Lib.hid (fun m W' (hb : Below w.heap.size w W') => extreme_any m vs A c B0 B W' (hA.keep hB0 (hb.mono hB)) (Nat.le_trans hB hb.size) hB0)
  clear hA hAW _hm _hok hlo hlost
  rcases ho with rfl | rfl
  all_goals
    go_enter Tryz.func53, Tryz.ntmps53
    go_upto_region 1 with (fail)
    rw [← hW]
    clear hW
    go_wp2_with (first | (go_at_call 79; (with_reducible refine HL.out.mono ?_); rintro e w2 ⟨rfl, hb2⟩; have hbw2 := hbw.trans (hb2.mono hbw.size); have B0 := BR.below hb2 BR.lt; obtain ⟨r0, s0, r1, s1, r2, s2, r3, s3⟩ := Blk.z4 B0) | (go_at_call 78; refine (HE.out _ _ hbw2).mono ?_; rintro e w3 ⟨⟨x, rfl, cs, rfl, hx⟩, hb3⟩; have hbw3 := hbw2.trans (hb3.mono hbw2.size); have HX := Lib.hid hx; obtain ⟨⟨Ax, cx, rfl, hr⟩, -, -⟩ := hx; have B0 := B0.below hb3 B0.lt; obtain ⟨r0, s0, r1, s1, r2, s2, r3, s3⟩ := Blk.z4 B0))
    exact end4 Tryz.results53 rfl B0 hbw3 (Nat.le_refl _) (fun W5 hW5 => ⟨⟨_, rfl, by rw [HV.out]; exact ⟨_, rfl, (HX.out.back hbw3 hB0w).keep hW5 hB0w⟩⟩, hW5⟩)
theorem dated_bare (op : Int) (a b : Val) : (datedV op a b).l = [] ∧ (datedV op a b).s = ⟨#[]⟩ := by
  unfold datedV ageV dayV
  repeat' split
  all_goals first | exact numeral_bare _ | exact ⟨rfl, rfl⟩
theorem apply_34 (op : Int) (vs : List Val) (A : Option Addr) (c B0 B : Nat) (w : World) (hA : ArgsAt B0 w B A vs) (hB : B ≤ w.heap.size) (hB0 : B0 ≤ B) (_hm : Mx w) (hok : ArgOk op vs) (ho : 34 ≤ op ∧ op ≤ 36) (hlost : vs.any missV = false) :
    Calls Tryz.prog 53 #[.int .i64 op, .slice A vs.length c] w fun e w' => (∃ x, e = .returned x ∧ VRet w' B0 (applyV op vs) x) ∧ Below w.heap.size w w' := by
  have hB0w : B0 ≤ w.heap.size := Nat.le_trans hB0 hB
  have hll := hA.1
  unfold maxLen at hll
  obtain ⟨W, hW⟩ : ∃ W, W = w.alloc (.cells #[.int .i64 0, .int .i64 0, .string ⟨#[]⟩, .slice none 0 0] 24 (0, 0)) := ⟨_, rfl⟩
  have hbw : Below w.heap.size w W := hW ▸ below_a w _
  have BR : Blk W w.heap.size 24 #[.int .i64 0, .int .i64 0, .string ⟨#[]⟩, .slice none 0 0] := hW ▸ Blk.new w _ _
  have hAW := hA.keep hB0 (hbw.mono hB)
  have HL := Lib.hid (containsFunc_any pred_missing vs A c B0 B W hAW (Nat.le_trans hB hbw.size) hB0)
  obtain ⟨lo, hlo⟩ : ∃ lo, vs.any missV = lo := ⟨_, rfl⟩
  have HLO := Lib.hid hlo
  rw [hlo] at HL
  obtain rfl : lo = false := hlo.symm.trans hlost
  obtain ⟨b, o, rfl, hb, hc⟩ := hA.base hok.l1
  obtain ⟨A0, c0', hv⟩ := hc 0 hok.l1
  rw [Nat.zero_mul, Nat.add_zero, ← arg_at hok.l1] at hv
  have HV := Lib.hid (show applyV op vs = datedV op (argAt vs 0) (argAt vs 1) by unfold applyV; rw [if_neg (by omega), if_neg (by omega), if_neg (by omega), if_neg (by omega), if_neg (by rw [hlost]; decide), if_neg (by omega), if_neg (by omega), if_pos (by omega)])
  have HE : datedV op (argAt vs 0) (argAt vs 1) = datedV op (argAt vs 0) zeroV := by rcases (show op = 34 ∨ op = 35 ∨ op = 36 by omega) with rfl | rfl | rfl <;> (unfold datedV; simp)
  have HD := Lib.hid (fun W' (hw : Below w.heap.size w W') => HE.symm ▸ dated_1 op (argAt vs 0) b o B0 vs.length c A0 c0' W' (hv.keep hw hB0w (Nat.lt_of_lt_of_le hb hB)) (Nat.lt_of_lt_of_le (Nat.lt_of_lt_of_le hb hB) hw.size) hok.l1 hA.1 ho (hok.d (by omega) hlost))
  have hn1 : 0 < vs.length := hok.l1
  have hbz : (datedV op (argAt vs 0) (argAt vs 1)).l = [] ∧ (datedV op (argAt vs 0) (argAt vs 1)).s = ⟨#[]⟩ := dated_bare _ _ _
  have HZ := Lib.hid hbz
  clear hA hAW _hm hlo hlost hc hbz
  rcases (show op = 34 ∨ op = 35 ∨ op = 36 by omega) with rfl | rfl | rfl
  all_goals
    go_enter Tryz.func53, Tryz.ntmps53
    go_upto_region 1 with (fail)
    rw [← hW]
    clear hW
    go_wp2_with (first | (go_at_call 79; (with_reducible refine HL.out.mono ?_); rintro e w2 ⟨rfl, hb2⟩; have hbw2 := hbw.trans (hb2.mono hbw.size); have B0 := BR.below hb2 BR.lt; obtain ⟨r0, s0, r1, s1, r2, s2, r3, s3⟩ := Blk.z4 B0) | (go_at_call 83; (with_reducible refine (HD.out _ hbw2).mono ?_); rintro e w3 ⟨rfl, hb3⟩; have hbw3 := hbw2.trans (hb3.mono hbw2.size); have B0 := B0.below hb3 B0.lt; obtain ⟨r0, s0, r1, s1, r2, s2, r3, s3⟩ := Blk.z4 B0; unfold vz))
    exact end4 Tryz.results53 rfl B0 hbw3 (Nat.le_refl _) (fun W5 hW5 => ⟨⟨_, rfl, by rw [HV.out]; exact VRet.bare HZ.out.1 (by rw [HZ.out.2]; exact Nat.zero_le _)⟩, hW5⟩)
theorem apply_37 (op : Int) (vs : List Val) (A : Option Addr) (c B0 B : Nat) (w : World) (hA : ArgsAt B0 w B A vs) (hB : B ≤ w.heap.size) (hB0 : B0 ≤ B) (_hm : Mx w) (hok : ArgOk op vs) (ho : op = 37 ∨ op = 38) (hlost : vs.any missV = false) :
    Calls Tryz.prog 53 #[.int .i64 op, .slice A vs.length c] w fun e w' => (∃ x, e = .returned x ∧ VRet w' B0 (applyV op vs) x) ∧ Below w.heap.size w w' := by
  have hB0w : B0 ≤ w.heap.size := Nat.le_trans hB0 hB
  have hll := hA.1
  unfold maxLen at hll
  obtain ⟨W, hW⟩ : ∃ W, W = w.alloc (.cells #[.int .i64 0, .int .i64 0, .string ⟨#[]⟩, .slice none 0 0] 24 (0, 0)) := ⟨_, rfl⟩
  have hbw : Below w.heap.size w W := hW ▸ below_a w _
  have BR : Blk W w.heap.size 24 #[.int .i64 0, .int .i64 0, .string ⟨#[]⟩, .slice none 0 0] := hW ▸ Blk.new w _ _
  have hAW := hA.keep hB0 (hbw.mono hB)
  have HL := Lib.hid (containsFunc_any pred_missing vs A c B0 B W hAW (Nat.le_trans hB hbw.size) hB0)
  obtain ⟨lo, hlo⟩ : ∃ lo, vs.any missV = lo := ⟨_, rfl⟩
  have HLO := Lib.hid hlo
  rw [hlo] at HL
  obtain rfl : lo = false := hlo.symm.trans hlost
  obtain ⟨b, o, rfl, hb, hc⟩ := hA.base hok.l1
  obtain ⟨A0, c0', hv⟩ := hc 0 hok.l1
  rw [Nat.zero_mul, Nat.add_zero, ← arg_at hok.l1] at hv
  have hl2 := hok.l2 (by omega)
  obtain ⟨A1, c1', hu⟩ := hc 1 hl2
  rw [Nat.one_mul, ← arg_at hl2] at hu
  have HV := Lib.hid (show applyV op vs = datedV op (argAt vs 0) (argAt vs 1) by unfold applyV; rw [if_neg (by omega), if_neg (by omega), if_neg (by omega), if_neg (by omega), if_neg (by rw [hlost]; decide), if_neg (by omega), if_neg (by omega), if_pos (by omega)])
  have HD := Lib.hid (fun W' (hw : Below w.heap.size w W') => dated_2 op (argAt vs 0) (argAt vs 1) b o B0 vs.length c A0 A1 c0' c1' W' (hv.keep hw hB0w (Nat.lt_of_lt_of_le hb hB)) (hu.keep hw hB0w (Nat.lt_of_lt_of_le hb hB)) (Nat.lt_of_lt_of_le (Nat.lt_of_lt_of_le hb hB) hw.size) hl2 hA.1 ho (hok.d (by omega) hlost) (hok.d2 ho hlost))
  have hn1 : 0 < vs.length := hok.l1
  have hbz : (datedV op (argAt vs 0) (argAt vs 1)).l = [] ∧ (datedV op (argAt vs 0) (argAt vs 1)).s = ⟨#[]⟩ := dated_bare _ _ _
  have HZ := Lib.hid hbz
  clear hA hAW _hm hlo hlost hc hbz
  rcases ho with rfl | rfl
  all_goals
    go_enter Tryz.func53, Tryz.ntmps53
    go_upto_region 1 with (fail)
    rw [← hW]
    clear hW
    go_wp2_with (first | (go_at_call 79; (with_reducible refine HL.out.mono ?_); rintro e w2 ⟨rfl, hb2⟩; have hbw2 := hbw.trans (hb2.mono hbw.size); have B0 := BR.below hb2 BR.lt; obtain ⟨r0, s0, r1, s1, r2, s2, r3, s3⟩ := Blk.z4 B0) | (go_at_call 83; (with_reducible refine (HD.out _ hbw2).mono ?_); rintro e w3 ⟨rfl, hb3⟩; have hbw3 := hbw2.trans (hb3.mono hbw2.size); have B0 := B0.below hb3 B0.lt; obtain ⟨r0, s0, r1, s1, r2, s2, r3, s3⟩ := Blk.z4 B0; unfold vz))
    exact end4 Tryz.results53 rfl B0 hbw3 (Nat.le_refl _) (fun W5 hW5 => ⟨⟨_, rfl, by rw [HV.out]; exact VRet.bare HZ.out.1 (by rw [HZ.out.2]; exact Nat.zero_le _)⟩, hW5⟩)
theorem apply_39 (op : Int) (vs : List Val) (A : Option Addr) (c B0 B : Nat) (w : World) (hA : ArgsAt B0 w B A vs) (hB : B ≤ w.heap.size) (hB0 : B0 ≤ B) (_hm : Mx w) (hok : ArgOk op vs) (ho : op = 39) (hlost : vs.any missV = false) :
    Calls Tryz.prog 53 #[.int .i64 op, .slice A vs.length c] w fun e w' => (∃ x, e = .returned x ∧ VRet w' B0 (applyV op vs) x) ∧ Below w.heap.size w w' := by
  have hB0w : B0 ≤ w.heap.size := Nat.le_trans hB0 hB
  have hll := hA.1
  unfold maxLen at hll
  obtain ⟨W, hW⟩ : ∃ W, W = w.alloc (.cells #[.int .i64 0, .int .i64 0, .string ⟨#[]⟩, .slice none 0 0] 24 (0, 0)) := ⟨_, rfl⟩
  have hbw : Below w.heap.size w W := hW ▸ below_a w _
  have BR : Blk W w.heap.size 24 #[.int .i64 0, .int .i64 0, .string ⟨#[]⟩, .slice none 0 0] := hW ▸ Blk.new w _ _
  have hAW := hA.keep hB0 (hbw.mono hB)
  have HL := Lib.hid (containsFunc_any pred_missing vs A c B0 B W hAW (Nat.le_trans hB hbw.size) hB0)
  obtain ⟨lo, hlo⟩ : ∃ lo, vs.any missV = lo := ⟨_, rfl⟩
  have HLO := Lib.hid hlo
  rw [hlo] at HL
  obtain rfl : lo = false := hlo.symm.trans hlost
  obtain ⟨b, o, rfl, hb, hc⟩ := hA.base hok.l1
  obtain ⟨A0, c0', hv⟩ := hc 0 hok.l1
  rw [Nat.zero_mul, Nat.add_zero, ← arg_at hok.l1] at hv
  have hl2 := hok.l2 (by omega)
  obtain ⟨A1, c1', hu⟩ := hc 1 hl2
  rw [Nat.one_mul, ← arg_at hl2] at hu
  have HV := Lib.hid (show applyV op vs = datedV op (argAt vs 0) (argAt vs 1) by unfold applyV; rw [if_neg (by omega), if_neg (by omega), if_neg (by omega), if_neg (by omega), if_neg (by rw [hlost]; decide), if_neg (by omega), if_neg (by omega), if_pos (by omega)])
  subst ho
  have HD := Lib.hid (fun W' (hw : Below w.heap.size w W') => dated_3 (argAt vs 0) (argAt vs 1) b o B0 vs.length c A0 A1 c0' c1' W' (hv.keep hw hB0w (Nat.lt_of_lt_of_le hb hB)) (hu.keep hw hB0w (Nat.lt_of_lt_of_le hb hB)) (Nat.lt_of_lt_of_le (Nat.lt_of_lt_of_le hb hB) hw.size) hl2 hA.1 (hok.d (by decide) hlost) (by rw [arg_at hl2]; exact (hok.n _ (List.getElem_mem hl2)).1))
  have hn1 : 0 < vs.length := hok.l1
  have hbz : (datedV 39 (argAt vs 0) (argAt vs 1)).l = [] ∧ (datedV 39 (argAt vs 0) (argAt vs 1)).s = ⟨#[]⟩ := dated_bare _ _ _
  have HZ := Lib.hid hbz
  clear hA hAW _hm hlo hlost hc hbz
  skip
  all_goals
    go_enter Tryz.func53, Tryz.ntmps53
    go_upto_region 1 with (fail)
    rw [← hW]
    clear hW
    go_wp2_with (first | (go_at_call 79; (with_reducible refine HL.out.mono ?_); rintro e w2 ⟨rfl, hb2⟩; have hbw2 := hbw.trans (hb2.mono hbw.size); have B0 := BR.below hb2 BR.lt; obtain ⟨r0, s0, r1, s1, r2, s2, r3, s3⟩ := Blk.z4 B0) | (go_at_call 83; (with_reducible refine (HD.out _ hbw2).mono ?_); rintro e w3 ⟨rfl, hb3⟩; have hbw3 := hbw2.trans (hb3.mono hbw2.size); have B0 := B0.below hb3 B0.lt; obtain ⟨r0, s0, r1, s1, r2, s2, r3, s3⟩ := Blk.z4 B0; unfold vz))
    exact end4 Tryz.results53 rfl B0 hbw3 (Nat.le_refl _) (fun W5 hW5 => ⟨⟨_, rfl, by rw [HV.out]; exact VRet.bare HZ.out.1 (by rw [HZ.out.2]; exact Nat.zero_le _)⟩, hW5⟩)
theorem apply_30 (op : Int) (vs : List Val) (A : Option Addr) (c B0 B : Nat) (w : World) (hA : ArgsAt B0 w B A vs) (hB : B ≤ w.heap.size) (hB0 : B0 ≤ B) (_hm : Mx w) (hok : ArgOk op vs) (ho : op = 30) (hlost : vs.any missV = false) :
    Calls Tryz.prog 53 #[.int .i64 op, .slice A vs.length c] w fun e w' => (∃ x, e = .returned x ∧ VRet w' B0 (applyV op vs) x) ∧ Below w.heap.size w w' := by
  have hB0w : B0 ≤ w.heap.size := Nat.le_trans hB0 hB
  have hll := hA.1
  unfold maxLen at hll
  obtain ⟨W, hW⟩ : ∃ W, W = w.alloc (.cells #[.int .i64 0, .int .i64 0, .string ⟨#[]⟩, .slice none 0 0] 24 (0, 0)) := ⟨_, rfl⟩
  have hbw : Below w.heap.size w W := hW ▸ below_a w _
  have BR : Blk W w.heap.size 24 #[.int .i64 0, .int .i64 0, .string ⟨#[]⟩, .slice none 0 0] := hW ▸ Blk.new w _ _
  have hAW := hA.keep hB0 (hbw.mono hB)
  have HL := Lib.hid (containsFunc_any pred_missing vs A c B0 B W hAW (Nat.le_trans hB hbw.size) hB0)
  obtain ⟨lo, hlo⟩ : ∃ lo, vs.any missV = lo := ⟨_, rfl⟩
  have HLO := Lib.hid hlo
  rw [hlo] at HL
  obtain rfl : lo = false := hlo.symm.trans hlost
  obtain ⟨b, o, rfl, hb, hc⟩ := hA.base hok.l1
  obtain ⟨A0, c0', hv⟩ := hc 0 hok.l1
  rw [Nat.zero_mul, Nat.add_zero, ← arg_at hok.l1] at hv
  have HV := Lib.hid (show applyV op vs = wordedV op (argAt vs 0) (argAt vs 1) by unfold applyV; rw [if_neg (by omega), if_neg (by omega), if_neg (by omega), if_neg (by omega), if_neg (by rw [hlost]; decide), if_neg (by omega), if_neg (by omega), if_neg (by omega), if_pos (by omega)])
  have HE : wordedV op (argAt vs 0) (argAt vs 1) = wordedV op (argAt vs 0) zeroV := by rw [ho]; unfold wordedV wordS; simp
  have HD := Lib.hid (fun W' (hw : Below w.heap.size w W') => HE.symm ▸ ho ▸ worded_1 (argAt vs 0) b o B0 vs.length c A0 c0' W' (hv.keep hw hB0w (Nat.lt_of_lt_of_le hb hB)) (Nat.lt_of_lt_of_le (Nat.lt_of_lt_of_le hb hB) hw.size) hok.l1 hA.1 (by rw [arg_at hok.l1]; exact (hok.n _ (List.getElem_mem hok.l1)).2.1))
  have hn1 : 0 < vs.length := hok.l1
  clear hA hAW _hm hlo hlost hc
  subst ho
  · skip
    go_enter Tryz.func53, Tryz.ntmps53
    go_upto_region 1 with (fail)
    rw [← hW]
    clear hW
    go_wp2_with (first | (go_at_call 79; (with_reducible refine HL.out.mono ?_); rintro e w2 ⟨rfl, hb2⟩; have hbw2 := hbw.trans (hb2.mono hbw.size); have B0 := BR.below hb2 BR.lt; obtain ⟨r0, s0, r1, s1, r2, s2, r3, s3⟩ := Blk.z4 B0) | (go_at_call 84; (with_reducible refine (HD.out _ hbw2).mono ?_); rintro e w3 ⟨⟨x, rfl, cs, rfl, hx⟩, hb3⟩; have hbw3 := hbw2.trans (hb3.mono hbw2.size); have HX := Lib.hid hx; obtain ⟨⟨Ax, cx, rfl, hr⟩, -, -⟩ := hx; have B0 := B0.below hb3 B0.lt; obtain ⟨r0, s0, r1, s1, r2, s2, r3, s3⟩ := Blk.z4 B0))
    exact end4 Tryz.results53 rfl B0 hbw3 (Nat.le_refl _) (fun W5 hW5 => ⟨⟨_, rfl, by rw [HV.out]; exact ⟨_, rfl, (HX.out.back hbw3 hB0w).keep hW5 hB0w⟩⟩, hW5⟩)
theorem apply_31 (op : Int) (vs : List Val) (A : Option Addr) (c B0 B : Nat) (w : World) (hA : ArgsAt B0 w B A vs) (hB : B ≤ w.heap.size) (hB0 : B0 ≤ B) (_hm : Mx w) (hok : ArgOk op vs) (ho : op = 31) (hlost : vs.any missV = false) :
    Calls Tryz.prog 53 #[.int .i64 op, .slice A vs.length c] w fun e w' => (∃ x, e = .returned x ∧ VRet w' B0 (applyV op vs) x) ∧ Below w.heap.size w w' := by
  have hB0w : B0 ≤ w.heap.size := Nat.le_trans hB0 hB
  have hll := hA.1
  unfold maxLen at hll
  obtain ⟨W, hW⟩ : ∃ W, W = w.alloc (.cells #[.int .i64 0, .int .i64 0, .string ⟨#[]⟩, .slice none 0 0] 24 (0, 0)) := ⟨_, rfl⟩
  have hbw : Below w.heap.size w W := hW ▸ below_a w _
  have BR : Blk W w.heap.size 24 #[.int .i64 0, .int .i64 0, .string ⟨#[]⟩, .slice none 0 0] := hW ▸ Blk.new w _ _
  have hAW := hA.keep hB0 (hbw.mono hB)
  have HL := Lib.hid (containsFunc_any pred_missing vs A c B0 B W hAW (Nat.le_trans hB hbw.size) hB0)
  obtain ⟨lo, hlo⟩ : ∃ lo, vs.any missV = lo := ⟨_, rfl⟩
  have HLO := Lib.hid hlo
  rw [hlo] at HL
  obtain rfl : lo = false := hlo.symm.trans hlost
  obtain ⟨b, o, rfl, hb, hc⟩ := hA.base hok.l1
  obtain ⟨A0, c0', hv⟩ := hc 0 hok.l1
  rw [Nat.zero_mul, Nat.add_zero, ← arg_at hok.l1] at hv
  have hl2 := hok.l2 (by omega)
  obtain ⟨A1, c1', hu⟩ := hc 1 hl2
  rw [Nat.one_mul, ← arg_at hl2] at hu
  have HV := Lib.hid (show applyV op vs = wordedV op (argAt vs 0) (argAt vs 1) by unfold applyV; rw [if_neg (by omega), if_neg (by omega), if_neg (by omega), if_neg (by omega), if_neg (by rw [hlost]; decide), if_neg (by omega), if_neg (by omega), if_neg (by omega), if_pos (by omega)])
  have HD := Lib.hid (fun W' (hw : Below w.heap.size w W') => ho ▸ worded_2 (argAt vs 0) (argAt vs 1) b o B0 vs.length c A0 A1 c0' c1' W' (hv.keep hw hB0w (Nat.lt_of_lt_of_le hb hB)) (hu.keep hw hB0w (Nat.lt_of_lt_of_le hb hB)) (Nat.lt_of_lt_of_le (Nat.lt_of_lt_of_le hb hB) hw.size) hl2 hA.1 (by rw [arg_at hok.l1]; exact (hok.n _ (List.getElem_mem hok.l1)).2.1) (by rw [arg_at hl2]; exact (hok.n _ (List.getElem_mem hl2)).2.1))
  have hn1 : 0 < vs.length := hok.l1
  clear hA hAW _hm hlo hlost hc
  subst ho
  · skip
    go_enter Tryz.func53, Tryz.ntmps53
    go_upto_region 1 with (fail)
    rw [← hW]
    clear hW
    go_wp2_with (first | (go_at_call 79; (with_reducible refine HL.out.mono ?_); rintro e w2 ⟨rfl, hb2⟩; have hbw2 := hbw.trans (hb2.mono hbw.size); have B0 := BR.below hb2 BR.lt; obtain ⟨r0, s0, r1, s1, r2, s2, r3, s3⟩ := Blk.z4 B0) | (go_at_call 84; (with_reducible refine (HD.out _ hbw2).mono ?_); rintro e w3 ⟨⟨x, rfl, cs, rfl, hx⟩, hb3⟩; have hbw3 := hbw2.trans (hb3.mono hbw2.size); have HX := Lib.hid hx; obtain ⟨⟨Ax, cx, rfl, hr⟩, -, -⟩ := hx; have B0 := B0.below hb3 B0.lt; obtain ⟨r0, s0, r1, s1, r2, s2, r3, s3⟩ := Blk.z4 B0))
    exact end4 Tryz.results53 rfl B0 hbw3 (Nat.le_refl _) (fun W5 hW5 => ⟨⟨_, rfl, by rw [HV.out]; exact ⟨_, rfl, (HX.out.back hbw3 hB0w).keep hW5 hB0w⟩⟩, hW5⟩)
theorem apply_single (op : Int) (vs : List Val) (A : Option Addr) (c B0 B : Nat) (w : World) (hA : ArgsAt B0 w B A vs) (hB : B ≤ w.heap.size) (hB0 : B0 ≤ B) (_hm : Mx w) (hok : ArgOk op vs) (ho : 20 ≤ op ∧ op ≤ 23 ∨ op = 28 ∨ op = 29) (hlost : vs.any missV = false) :
    Calls Tryz.prog 53 #[.int .i64 op, .slice A vs.length c] w fun e w' => (∃ x, e = .returned x ∧ VRet w' B0 (applyV op vs) x) ∧ Below w.heap.size w w' := by
  have hB0w : B0 ≤ w.heap.size := Nat.le_trans hB0 hB
  have hll := hA.1
  unfold maxLen at hll
  obtain ⟨W, hW⟩ : ∃ W, W = w.alloc (.cells #[.int .i64 0, .int .i64 0, .string ⟨#[]⟩, .slice none 0 0] 24 (0, 0)) := ⟨_, rfl⟩
  have hbw : Below w.heap.size w W := hW ▸ below_a w _
  have BR : Blk W w.heap.size 24 #[.int .i64 0, .int .i64 0, .string ⟨#[]⟩, .slice none 0 0] := hW ▸ Blk.new w _ _
  have hAW := hA.keep hB0 (hbw.mono hB)
  have HL := Lib.hid (containsFunc_any pred_missing vs A c B0 B W hAW (Nat.le_trans hB hbw.size) hB0)
  obtain ⟨lo, hlo⟩ : ∃ lo, vs.any missV = lo := ⟨_, rfl⟩
  have HLO := Lib.hid hlo
  rw [hlo] at HL
  obtain rfl : lo = false := hlo.symm.trans hlost
  obtain ⟨b, o, rfl, hb, hc⟩ := hA.base hok.l1
  obtain ⟨A0, c0', hv⟩ := hc 0 hok.l1
  rw [Nat.zero_mul, Nat.add_zero, ← arg_at hok.l1] at hv
  have HV := Lib.hid (show applyV op vs = singleV op (argAt vs 0) by unfold applyV; rw [if_neg (by omega), if_neg (by omega), if_neg (by omega), if_neg (by omega), if_neg (by rw [hlost]; decide), if_neg (by omega), if_neg (by omega), if_neg (by omega), if_neg (by omega)])
  have hz := hok.n _ (List.getElem_mem hok.l1)
  rw [← arg_at hok.l1] at hz
  have h29 := fun h => hok.c h hlost
  have hn1 : 0 < vs.length := hok.l1
  have hbz : (singleV op (argAt vs 0)).l = [] ∧ (singleV op (argAt vs 0)).s = ⟨#[]⟩ := by unfold singleV; repeat' split
                                                                                          all_goals exact numeral_bare _
  have HZ := Lib.hid hbz
  obtain ⟨x, hx⟩ : ∃ x, argAt vs 0 = x := ⟨_, rfl⟩
  rw [hx] at hv HV hz h29 HZ
  obtain ⟨k, n, st, l⟩ := x
  have HS := Lib.hid (fun W' => single_any op k n st l A0 c0' W' (by omega) hz.1 h29 hz.2.1 hz.2.2)
  clear hbz hx hz h29
  clear hA hAW _hm hlo hlost hc hok
  rcases (show op = 20 ∨ op = 21 ∨ op = 22 ∨ op = 23 ∨ op = 28 ∨ op = 29 by omega) with rfl | rfl | rfl | rfl | rfl | rfl
  all_goals
    go_enter Tryz.func53, Tryz.ntmps53
    go_upto_region 1 with (fail)
    rw [← hW]
    clear hW
    go_wp2_with (first | (go_at_call 79; (with_reducible refine HL.out.mono ?_); rintro e w2 ⟨rfl, hb2⟩; have hbw2 := hbw.trans (hb2.mono hbw.size); have B0 := BR.below hb2 BR.lt; obtain ⟨r0, s0, r1, s1, r2, s2, r3, s3⟩ := Blk.z4 B0; obtain ⟨v0, v1, v2, v3, -, -, -⟩ := hv.keep hbw2 hB0w (Nat.lt_of_lt_of_le hb hB)) | (go_at_call 85; (with_reducible refine (HS.out _).mono ?_); rintro e w3 ⟨rfl, hb3⟩; have hbw3 := hbw2.trans (hb3.mono hbw2.size); have B0 := B0.below hb3 B0.lt; obtain ⟨r0, s0, r1, s1, r2, s2, r3, s3⟩ := Blk.z4 B0; unfold vz))
    exact end4 Tryz.results53 rfl B0 hbw3 (Nat.le_refl _) (fun W5 hW5 => ⟨⟨_, rfl, by rw [HV.out]; exact VRet.bare HZ.out.1 (by rw [HZ.out.2]; exact Nat.zero_le _)⟩, hW5⟩)
theorem apply_arith (op : Int) (vs : List Val) (A : Option Addr) (c B0 B : Nat) (w : World) (hA : ArgsAt B0 w B A vs) (hB : B ≤ w.heap.size) (hB0 : B0 ≤ B) (_hm : Mx w) (hok : ArgOk op vs) (ho : 15 ≤ op ∧ op ≤ 19) (hlost : vs.any missV = false) :
    Calls Tryz.prog 53 #[.int .i64 op, .slice A vs.length c] w fun e w' => (∃ x, e = .returned x ∧ VRet w' B0 (applyV op vs) x) ∧ Below w.heap.size w w' := by
  have hB0w : B0 ≤ w.heap.size := Nat.le_trans hB0 hB
  have hll := hA.1
  unfold maxLen at hll
  obtain ⟨W, hW⟩ : ∃ W, W = w.alloc (.cells #[.int .i64 0, .int .i64 0, .string ⟨#[]⟩, .slice none 0 0] 24 (0, 0)) := ⟨_, rfl⟩
  have hbw : Below w.heap.size w W := hW ▸ below_a w _
  have BR : Blk W w.heap.size 24 #[.int .i64 0, .int .i64 0, .string ⟨#[]⟩, .slice none 0 0] := hW ▸ Blk.new w _ _
  have hAW := hA.keep hB0 (hbw.mono hB)
  have HL := Lib.hid (containsFunc_any pred_missing vs A c B0 B W hAW (Nat.le_trans hB hbw.size) hB0)
  obtain ⟨lo, hlo⟩ : ∃ lo, vs.any missV = lo := ⟨_, rfl⟩
  have HLO := Lib.hid hlo
  rw [hlo] at HL
  obtain rfl : lo = false := hlo.symm.trans hlost
  obtain ⟨b, o, rfl, hb, hc⟩ := hA.base hok.l1
  obtain ⟨A0, c0', hv⟩ := hc 0 hok.l1
  rw [Nat.zero_mul, Nat.add_zero, ← arg_at hok.l1] at hv
  have hl2 := hok.l2 (by omega)
  obtain ⟨A1, c1', hu⟩ := hc 1 hl2
  rw [Nat.one_mul, ← arg_at hl2] at hu
  have HV := Lib.hid (show applyV op vs = arithV op (argAt vs 0).n (argAt vs 1).n by unfold applyV; rw [if_neg (by omega), if_neg (by omega), if_neg (by omega), if_neg (by omega), if_neg (by rw [hlost]; decide), if_neg (by omega), if_pos ho])
  have hz := (hok.n _ (List.getElem_mem hok.l1)).1
  have hy := (hok.n _ (List.getElem_mem hl2)).1
  rw [← arg_at hok.l1] at hz
  rw [← arg_at hl2] at hy
  have hbz : (arithV op (argAt vs 0).n (argAt vs 1).n).l = [] ∧ (arithV op (argAt vs 0).n (argAt vs 1).n).s = ⟨#[]⟩ := by
    unfold arithV dividedV
    repeat' split
    all_goals first | exact numeral_bare _ | exact ⟨rfl, rfl⟩
  have HZ := Lib.hid hbz
  have hn0 : (0 : Int) < (vs.length : Nat) := by have := hok.l1; omega
  have hn1 : (1 : Int) < (vs.length : Nat) := by omega
  obtain ⟨x, hx⟩ : ∃ x, argAt vs 0 = x := ⟨_, rfl⟩
  obtain ⟨y, hyy⟩ : ∃ x, argAt vs 1 = x := ⟨_, rfl⟩
  rw [hx] at hv HV hz HZ
  rw [hyy] at hu HV hy HZ
  have HS := Lib.hid (fun W' => arith_any op x.n y.n W' ho hz hy)
  clear hbz hx hz hy hyy hA hAW _hm hlo hlost hc hok
  have k1 : (op == 1) = false := by simp; omega
  have k2 : (op == 2) = false := by simp; omega
  have k3 : (op == 3) = false := by simp; omega
  have k4 : 4 ≤ op := by omega
  have k5 : ¬ op ≤ 11 := by omega
  have k6 : (op == 32) = false := by simp; omega
  have k7 : (op == 33) = false := by simp; omega
  have k8 : (op == 24) = false := by simp; omega
  have k9 : (op == 25) = false := by simp; omega
  obtain ⟨ho1, ho2⟩ := ho
  · skip
    go_enter Tryz.func53, Tryz.ntmps53
    go_upto_region 1 with (fail)
    rw [← hW]
    clear hW
    go_wp2_with (go_at_call 79; (with_reducible refine HL.out.mono ?_); rintro e w2 ⟨rfl, hb2⟩; have hbw2 := hbw.trans (hb2.mono hbw.size); have B0 := BR.below hb2 BR.lt; obtain ⟨r0, s0, r1, s1, r2, s2, r3, s3⟩ := Blk.z4 B0; obtain ⟨v0, v1, v2, v3, -, -, -⟩ := hv.keep hbw2 hB0w (Nat.lt_of_lt_of_le hb hB); obtain ⟨u0, u1, u2, u3, -, -, -⟩ := hu.keep hbw2 hB0w (Nat.lt_of_lt_of_le hb hB))
    go_region_with (go_at_call 82; refine (HS.out _).mono ?_; rintro e w3 ⟨rfl, hb3⟩; have hbw3 := hbw2.trans (((Below.refl _ w2).drew.trans hb3).mono hbw2.size); have B0 := B0.drew.below hb3 B0.lt; obtain ⟨r0, s0, r1, s1, r2, s2, r3, s3⟩ := Blk.z4 B0; unfold vz)
    all_goals go_wp2_with fail
    all_goals exact end4 Tryz.results53 rfl B0 hbw3 (Nat.le_refl _) (fun W5 hW5 => ⟨⟨_, rfl, by rw [HV.out]; exact VRet.bare HZ.out.1 (by rw [HZ.out.2]; exact Nat.zero_le _)⟩, hW5⟩)
theorem apply_1 (op : Int) (vs : List Val) (A : Option Addr) (c B0 B : Nat) (w : World) (hA : ArgsAt B0 w B A vs) (hB : B ≤ w.heap.size) (hB0 : B0 ≤ B) (_hm : Mx w) (hok : ArgOk op vs) (ho : op = 1) :
    Calls Tryz.prog 53 #[.int .i64 op, .slice A vs.length c] w fun e w' => (∃ x, e = .returned x ∧ VRet w' B0 (applyV op vs) x) ∧ Below w.heap.size w w' := by
  have hB0w : B0 ≤ w.heap.size := Nat.le_trans hB0 hB
  have hll := hA.1
  unfold maxLen at hll
  obtain ⟨W, hW⟩ : ∃ W, W = w.alloc (.cells #[.int .i64 0, .int .i64 0, .string ⟨#[]⟩, .slice none 0 0] 24 (0, 0)) := ⟨_, rfl⟩
  have hbw : Below w.heap.size w W := hW ▸ below_a w _
  have BR : Blk W w.heap.size 24 #[.int .i64 0, .int .i64 0, .string ⟨#[]⟩, .slice none 0 0] := hW ▸ Blk.new w _ _
  have hAW := hA.keep hB0 (hbw.mono hB)
  have HL := Lib.hid (containsFunc_any pred_missing vs A c B0 B W hAW (Nat.le_trans hB hbw.size) hB0)
  obtain ⟨lo, hlo⟩ : ∃ lo, vs.any missV = lo := ⟨_, rfl⟩
  have HLO := Lib.hid hlo
  rw [hlo] at HL
  obtain ⟨b, o, rfl, hb, hc⟩ := hA.base hok.l1
  obtain ⟨A0, c0', hv⟩ := hc 0 hok.l1
  rw [Nat.zero_mul, Nat.add_zero, ← arg_at hok.l1] at hv
  subst ho
  have HV := Lib.hid (show applyV 1 vs = truthV (!isT (argAt vs 0)) by unfold applyV; rw [if_pos rfl])
  have hn1 : 0 < vs.length := hok.l1
  obtain ⟨x, hx⟩ : ∃ x, argAt vs 0 = x := ⟨_, rfl⟩
  rw [hx] at hv HV
  obtain ⟨q, hq⟩ : ∃ q, isT x = q := ⟨_, rfl⟩
  have HT := Lib.hid (fun W' => isTrue_any x.k x.n x.s (.slice A0 x.l.length c0') W')
  rw [show (decide (x.k = 7) && decide (x.n = 1)) = q from hq] at HT
  rw [hq] at HV
  clear hA hAW _hm hlo hc hok hx hq
  cases q
  all_goals
    go_enter Tryz.func53, Tryz.ntmps53
    go_upto_region 1 with (fail)
    rw [← hW]
    clear hW
    go_wp2_with (first | (go_at_call 79; (with_reducible refine HL.out.mono ?_); rintro e w2 ⟨rfl, hb2⟩; have hbw2 := hbw.trans (hb2.mono hbw.size); have B0 := BR.below hb2 BR.lt; obtain ⟨r0, s0, r1, s1, r2, s2, r3, s3⟩ := Blk.z4 B0; obtain ⟨v0, v1, v2, v3, -, -, -⟩ := hv.keep hbw2 hB0w (Nat.lt_of_lt_of_le hb hB)) | (go_at_call 51; refine (HT.out _).mono ?_; rintro e w3 ⟨rfl, hb3⟩; have hbw3 := hbw2.trans (hb3.mono hbw2.size); have B0 := B0.below hb3 B0.lt) | (go_at_call 76; (with_reducible refine (truth_any _ _).mono ?_); rintro e w4 ⟨rfl, hb4⟩; have hbw4 := hbw3.trans (hb4.mono hbw3.size); have B0 := B0.below hb4 B0.lt; obtain ⟨r0, s0, r1, s1, r2, s2, r3, s3⟩ := Blk.z4 B0; unfold vz))
    exact end4 Tryz.results53 rfl B0 hbw4 (Nat.le_refl _) (fun W5 hW5 => ⟨⟨_, rfl, by rw [HV.out]; exact VRet.truth _⟩, hW5⟩)
end Go.Proofs.YtpanbeoelbhhgaaGreatDoor
namespace Go.Proofs.YtpanbeoelbhhgaaGreatDoor
theorem name_le {s : ByteArray} (h : isNameF s.data.toList = true) : s.size ≤ 1000000 := by
  unfold isNameF at h
  simp only [Bool.and_eq_true, decide_eq_true_iff] at h
  have h2 := h.1.1.1.2
  have e : s.data.toList.length = s.size := by simp
  omega
theorem begins_le {a b : List ByteArray} (h : beginsB a b = true) : a.length ≤ b.length := by
  unfold beginsB at h
  rw [Bool.and_eq_true, decide_eq_true_iff] at h
  exact h.1
/-- a cell that is named -/
theorem ans_facts {S : SceneD} (hS : ScOk S) {nm : ByteArray} {at_ : List ByteArray} (h : (cellK S.cells nm at_).2 = 0) :
    ∃ d, S.cells.find? (fun c => decide (c.nm = nm)) = some d ∧ d ∈ S.cells ∧ noSp nm ∧ nm.size ≤ 1000000 ∧ d.loops.length ≤ at_.length := by
  unfold cellK at h
  split at h
  · rename_i c hc
    have hcm := List.mem_of_find?_eq_some hc
    have hcn := List.find?_some hc
    rw [Bool.and_eq_true, decide_eq_true_iff] at hcn
    rcases hf2 : S.cells.find? (fun c => decide (c.nm = nm)) with _ | d
    · exact absurd (List.find?_eq_none.1 hf2 c hcm) (by simp [hcn.1])
    · have hdm := List.mem_of_find?_eq_some hf2
      have hdn := List.find?_some hf2
      rw [decide_eq_true_iff] at hdn
      obtain rfl := one_of (f := CellD.nm) hS.sceneOk.1.oneC hdm hcm (by rw [hdn, hcn.1])
      have hn := hS.cn d hdm
      rw [hdn] at hn
      exact ⟨d, hf2, hdm, name_noSp hn, name_le hn, begins_le hcn.2⟩
  · exact absurd h (by decide)
/-- a loop that is named -/
theorem nest_facts {S : SceneD} (hS : ScOk S) {nm : ByteArray} {at_ at' : List ByteArray} (h : nestK S.loops nm at_ = some at') :
    ∃ d, S.loops.find? (fun n => decide (n.nm = nm)) = some d ∧ d ∈ S.loops ∧ noSp nm ∧ nm.size ≤ 1000000 ∧ d.loops.length ≤ at_.length ∧ at' = d.loops ++ [d.nm] := by
  unfold nestK at h
  rcases hf2 : S.loops.find? (fun n => decide (n.nm = nm)) with _ | d
  · rw [hf2] at h; cases h
  · rw [hf2] at h
    simp only at h
    split at h
    · rename_i hb
      have hdm := List.mem_of_find?_eq_some hf2
      have hdn := List.find?_some hf2
      rw [decide_eq_true_iff] at hdn
      have hn := hS.ln d hdm
      rw [hdn] at hn
      exact ⟨d, hf2, hdm, name_noSp hn, name_le hn, begins_le hb, (Option.some.inj h).symm⟩
    · cases h
/-- an aggregate -/
theorem kind_5 {S : SceneD} (hS : ScOk S) {e : Ex} {at_ : List ByteArray} (hf : e.fault = 0) (hk : e.k = 5) (h : (e.kind S.cells S.loops at_).2 = 0) :
    ∃ d a, S.loops.find? (fun n => decide (n.nm = e.nm)) = some d ∧ d ∈ S.loops ∧ noSp e.nm ∧ e.nm.size ≤ 1000000 ∧ d.loops.length ≤ at_.length ∧ e.ar = [a] ∧ a.fault = 0 ∧ (a.kind S.cells S.loops (d.loops ++ [d.nm])).2 = 0 ∧ 1 ≤ e.op ∧ e.op ≤ 6 := by
  have P := partOk (fault_part hf)
  have hA := fault_arg hf
  rw [kind_eq, if_neg (by omega), if_neg (by omega), if_neg (by omega), if_pos hk] at h
  have h1 := P.a5 hk
  have h5 := P.op5 hk
  rcases hn : nestK S.loops e.nm at_ with _ | at'
  · rw [hn] at h; exact absurd (show (5 : Int) = 0 from h) (by decide)
  · rw [hn] at h
    simp only at h
    obtain ⟨d, h2, h3, h4, h6, h7, rfl⟩ := nest_facts hS hn
    match hr : e.ar, h1 with
    | [a], _ =>
      rw [hr, overL] at h
      refine ⟨d, a, h2, h3, h4, h6, h7, rfl, hA a (by rw [hr]; exact List.mem_cons_self ..), ?_, h5⟩
      by_cases h0 : (a.kind S.cells S.loops (d.loops ++ [d.nm])).2 = 0
      · exact h0
      · rw [if_pos h0] at h; exact absurd h h0
/-- an operation -/
theorem kind_4 {cells : List CellD} {loops : List NestD} {e : Ex} {at_ : List ByteArray} (hk : e.k = 4) (h : (e.kind cells loops at_).2 = 0) :
    (∀ a ∈ e.ar, (a.kind cells loops at_).2 = 0) ∧ e.kind cells loops at_ = opT e.op (e.ar.map fun a => (a.kind cells loops at_).1) := by
  rw [kind_eq, if_neg (by omega), if_neg (by omega), if_neg (by omega), if_neg (by omega)] at h ⊢
  by_cases h0 : (kindsL cells loops e.ar at_ []).1 = 0
  · rw [if_neg (by rw [h0]; decide)]
    obtain ⟨hks, hz⟩ := kindsL_zero (ks := (kindsL cells loops e.ar at_ []).2) (ks0 := []) (Prod.ext h0 rfl)
    rw [List.nil_append] at hks
    rw [hks]
    exact ⟨hz, rfl⟩
  · rw [if_pos h0] at h; exact absurd h h0
/-- what is asked about a cell names it -/
theorem head_ans {e : Ex} (hf : e.fault = 0) (hk : e.k = 4) (ho : 12 ≤ e.op ∧ e.op ≤ 14) : ∃ a, e.ar = [a] ∧ a.k = 2 := by
  have P := fault_part hf
  have hp := partOk P
  have h1 := hp.a4 hk
  have e1 : arOf e.op = (1, 1) := by unfold arOf; rw [if_neg (by omega), if_neg (by omega), if_pos (by omega)]
  rw [e1] at h1
  match hr : e.ar, h1 with
  | [a], _ =>
    refine ⟨a, rfl, ?_⟩
    unfold partF partB at P
    rw [hr] at P
    by_cases c1 : outB e.k 1 5 = true
    · rw [if_pos c1] at P; exact absurd P (by decide)
    rw [if_neg c1] at P
    by_cases c2 : e.k = 4 ∧ outB e.op 1 39 = true
    · rw [if_pos c2] at P; exact absurd P (by decide)
    rw [if_neg c2] at P
    by_cases c3 : e.k = 5 ∧ outB e.op 1 6 = true
    · rw [if_pos c3] at P; exact absurd P (by decide)
    rw [if_neg c3] at P
    by_cases c4 : extraB e.k e.op e.nm e.v [a].length = true
    · rw [if_pos c4] at P; exact absurd P (by decide)
    have e2 : headK [a] = a.k := rfl
    rw [if_neg c4, if_neg (by omega), if_pos hk, e2] at P
    by_cases c5 : a.k = 2
    · exact c5
    · rw [if_pos ⟨ho.1, ho.2, c5⟩] at P; exact absurd P (by decide)
theorem ok_small {k : Int} {v : Val} (h : okV k v) : nB v.n ∧ v.s.size ≤ 1000000 ∧ v.l.length ≤ 1000000 := by
  rcases h with rfl | ⟨-, h⟩
  · unfold nB zeroV; exact ⟨⟨by decide, by decide⟩, Nat.zero_le _, Nat.zero_le _⟩
  · have P := chkP_of h
    have hr := P.r
    have hz := P.sz
    refine ⟨?_, by omega, by omega⟩
    unfold nB
    unfold loOf hiOf at hr
    repeat' split at hr
    all_goals omega
theorem ok_code {v : Val} (h : okV 4 v) : -999 ≤ v.n ∧ v.n ≤ 999 := by
  rcases h with rfl | ⟨h1, h⟩
  · exact ⟨by decide, by decide⟩
  · have hr := (chkP_of h).r
    rw [h1] at hr
    have e1 : loOf 4 = 1 := by decide
    have e2 : hiOf 4 = 999 := by decide
    omega
theorem ok_dB {v : Val} (h : okV 6 v) : dB v.n := by
  rcases h with rfl | ⟨h1, h⟩
  · exact ⟨by decide, by decide⟩
  · have hr := (chkP_of h).r
    rw [h1] at hr
    have e1 : loOf 6 = -25567 := by decide
    have e2 : hiOf 6 = 84005 := by decide
    unfold dB; omega
theorem f2_len {ks : List Int} {vs : List Val} (h : F2 ks vs) : vs.length = ks.length := by
  induction h with
  | nil => rfl
  | cons _ _ ih => simp [ih]
theorem f2_mem {ks : List Int} {vs : List Val} (h : F2 ks vs) : ∀ v ∈ vs, ∃ k, okV k v := by
  induction h with
  | nil => intro v hv; cases hv
  | cons h1 _ ih =>
    intro v hv
    rcases List.mem_cons.1 hv with e | e
    · exact ⟨_, e ▸ h1⟩
    · exact ih v e
theorem kAt_all {ks : List Int} {k : Int} (h : allB ks k = true) {i : Nat} (hi : i < ks.length) : kAt ks i = k := by
  unfold allB at h
  unfold kAt
  rw [List.getD_eq_getElem?_getD, List.getElem?_eq_getElem hi]
  have := List.all_eq_true.1 h _ (List.getElem_mem hi)
  simpa using this
theorem args_ok {op : Int} {ks : List Int} {vs : List Val} {k : Int} (ho : 1 ≤ op ∧ op ≤ 39) (hl : (arOf op).1 ≤ ks.length) (hv : F2 ks vs) (ht : opT op ks = (k, 0)) : ArgOk op vs := by
  have e := f2_len hv
  have hl1 : 1 ≤ (arOf op).1 := by unfold arOf; repeat' split
                                   all_goals first | decide | omega
  have hl2 : (4 ≤ op ∧ op ≤ 11) ∨ (15 ≤ op ∧ op ≤ 19) ∨ (31 ≤ op ∧ op ≤ 33) ∨ 37 ≤ op → 2 ≤ (arOf op).1 := fun h => by
    unfold arOf; rw [if_neg (by omega), if_neg (by omega), if_neg (by omega), if_pos (by omega)]; decide
  refine ⟨by omega, fun h => by have := hl2 h; omega, fun v h => ?_, fun h _ => ?_, fun h _ => ?_, fun h _ => ?_⟩
  · obtain ⟨q, hq⟩ := f2_mem hv v h
    exact ok_small hq
  · subst h
    have h2 := (fit_ok (show fitT (kAt ks 0 == 4) 2 = (k, 0) from ht)).1
    rw [beq_iff_eq] at h2
    have := ok_getD hv 0 (by omega)
    rw [h2] at this
    exact ok_code this
  · have h0 := ok_getD hv 0 (by omega)
    unfold opT at ht
    iterate 14 rw [if_neg (by omega)] at ht
    by_cases h5 : op = 34 ∨ op = 35 ∨ op = 36 ∨ op = 37 ∨ op = 38
    · rw [if_pos h5] at ht
      rw [kAt_all (fit_ok ht).1 (by omega)] at h0
      exact ok_dB h0
    · rw [if_neg h5, if_pos (by omega)] at ht
      have h2 := (fit_ok ht).1
      rw [Bool.and_eq_true, beq_iff_eq, beq_iff_eq] at h2
      rw [h2.1] at h0
      exact ok_dB h0
  · have h2 := hl2 (by omega)
    have h0 := ok_getD hv 1 (by omega)
    unfold opT at ht
    iterate 14 rw [if_neg (by omega)] at ht
    rw [if_pos (by omega)] at ht
    rw [kAt_all (fit_ok ht).1 (by omega)] at h0
    exact ok_dB h0
end Go.Proofs.YtpanbeoelbhhgaaGreatDoor
namespace Go.Proofs.YtpanbeoelbhhgaaGreatDoor
open Go.RowKit
attribute [local go_sem ↓] Go.wp_at_zero Go.wp_at_succ
set_option maxHeartbeats 4000000
set_option maxRecDepth 100000
theorem eval_1 {S : SceneD} (_hS : ScOk S) (_hSB : (∀ c ∈ S.cells, c.loops.length ≤ 1048576) ∧ (∀ c ∈ S.loops, c.loops.length ≤ 1048576)) {B0 gs m1 m2 m3 m4 : Nat} {kv1 kv2 kv3 kv4 : List (ByteArray × Value)} {e : Ex} (_hf : e.fault = 0) (hk : e.k = 1) : EvSpec S B0 gs m1 m2 m3 m4 kv1 kv2 kv3 kv4 e := by
  intro at_ row Aa R ca cr B1 cs w hw hx hat hrow hB1 hl hca hcr hrl hr hkd
  have hB0 := hw.le
  have HW := Lib.hid hw
  have hgs := hw.si.blk.lt
  obtain ⟨hn0, hs0, hl0, ha0, hx0, hr0, hi0⟩ := hx
  rename_i X1 x1 X2 x2 cs0
  have HXS := Lib.hid (And.intro hx0 (And.intro hs0 hl0))
  have HAR := Lib.hid (And.intro hr0 hi0)
  have HAT := Lib.hid hat
  have HROW := Lib.hid hrow
  have HR := Lib.hid hr
  have HKD := Lib.hid hkd
  obtain ⟨W, hW, hbw, BV, BR, hsz⟩ := box2 w 27 24 #[.int .i64 e.k, .int .i64 e.op, .string e.nm, .int .i64 e.v.k, .int .i64 e.v.n, .string e.v.s, .slice X1 e.v.l.length x1, .slice X2 e.ar.length x2] #[.int .i64 0, .int .i64 0, .string ⟨#[]⟩, .slice none 0 0]
  have HBV := Lib.hid BV
  have HBR := Lib.hid BR
  rw [show exCells e X1 x1 X2 x2 = [.int .i64 e.k, .int .i64 e.op, .string e.nm, .int .i64 e.v.k, .int .i64 e.v.n, .string e.v.s, .slice X1 e.v.l.length x1, .slice X2 e.ar.length x2] from rfl]
  change Calls _ _ #[_, .agg #[.int .i64 e.k, .int .i64 e.op, .string e.nm, .int .i64 e.v.k, .int .i64 e.v.n, .string e.v.s, .slice X1 e.v.l.length x1, .slice X2 e.ar.length x2], _, _] _ _
  have HVAL := Lib.hid (show e.val S at_ row = e.v by rw [val_eq, if_pos hk])
  have ec0 : W.cell? ⟨w.heap.size, 0, none⟩ = some (.int .i64 1) := by have h := HBV.out.cell 0; rwa [show (#[.int .i64 e.k, .int .i64 e.op, .string e.nm, .int .i64 e.v.k, .int .i64 e.v.n, .string e.v.s, .slice X1 e.v.l.length x1, .slice X2 e.ar.length x2] : Array Value)[0]? = some (.int .i64 1) from by rw [hk]; rfl] at h
  have ec3 : W.cell? ⟨w.heap.size, 3, none⟩ = some (.int .i64 e.v.k) := HBV.out.cell 3
  have ec4 : W.cell? ⟨w.heap.size, 4, none⟩ = some (.int .i64 e.v.n) := HBV.out.cell 4
  have ec5 : W.cell? ⟨w.heap.size, 5, none⟩ = some (.string e.v.s) := HBV.out.cell 5
  have ec6 : W.cell? ⟨w.heap.size, 6, none⟩ = some (.slice X1 e.v.l.length x1) := HBV.out.cell 6
  obtain ⟨r0, s0, r1, s1, r2, s2, r3, s3⟩ := Blk.z4 BR
  clear hk hx0 hr0 hi0 hat hrow hr hkd
  go_enter Tryz.func20, Tryz.ntmps20
  go_upto_region 1 with (fail)
  rw [← hW]
  clear hW hsz
  go_wp2_with fail
  exact end4 Tryz.results20 rfl BR hbw (Nat.le_succ _) (fun W9 hW9 => ⟨⟨_, rfl, by rw [HVAL.out]; exact ⟨_, rfl, ⟨⟨X1, x1, rfl, HXS.out.1.below (hW9.mono hB0)⟩, hs0, hl0⟩⟩⟩, hW9⟩)
theorem eval_2 {S : SceneD} (hS : ScOk S) (hSB : (∀ c ∈ S.cells, c.loops.length ≤ 1048576) ∧ (∀ c ∈ S.loops, c.loops.length ≤ 1048576)) {B0 gs m1 m2 m3 m4 : Nat} {kv1 kv2 kv3 kv4 : List (ByteArray × Value)} {e : Ex} (_hf : e.fault = 0) (hk : e.k = 2) : EvSpec S B0 gs m1 m2 m3 m4 kv1 kv2 kv3 kv4 e := by
  intro at_ row Aa R ca cr B1 cs w hw hx hat hrow hB1 hl hca hcr hrl hr hkd
  have hB0 := hw.le
  have HW := Lib.hid hw
  have hgs := hw.si.blk.lt
  obtain ⟨hn0, hs0, hl0, ha0, hx0, hr0, hi0⟩ := hx
  rename_i X1 x1 X2 x2 cs0
  have HXS := Lib.hid (And.intro hx0 (And.intro hs0 hl0))
  have HAR := Lib.hid (And.intro hr0 hi0)
  have HAT := Lib.hid hat
  have HROW := Lib.hid hrow
  have HR := Lib.hid hr
  have HKD := Lib.hid hkd
  obtain ⟨W, hW, hbw, BV, BR, hsz⟩ := box2 w 27 24 #[.int .i64 e.k, .int .i64 e.op, .string e.nm, .int .i64 e.v.k, .int .i64 e.v.n, .string e.v.s, .slice X1 e.v.l.length x1, .slice X2 e.ar.length x2] #[.int .i64 0, .int .i64 0, .string ⟨#[]⟩, .slice none 0 0]
  have HBV := Lib.hid BV
  have HBR := Lib.hid BR
  rw [show exCells e X1 x1 X2 x2 = [.int .i64 e.k, .int .i64 e.op, .string e.nm, .int .i64 e.v.k, .int .i64 e.v.n, .string e.v.s, .slice X1 e.v.l.length x1, .slice X2 e.ar.length x2] from rfl]
  change Calls _ _ #[_, .agg #[.int .i64 e.k, .int .i64 e.op, .string e.nm, .int .i64 e.v.k, .int .i64 e.v.n, .string e.v.s, .slice X1 e.v.l.length x1, .slice X2 e.ar.length x2], _, _] _ _
  have hk2 : (cellK S.cells e.nm at_).2 = 0 := by have h := hkd; rw [kind_eq, if_neg (by omega), if_pos hk] at h; exact h
  obtain ⟨d, hfd, hdm, hns, hnz, hdl⟩ := ans_facts hS hk2
  obtain ⟨bd, hbd⟩ : ∃ b, findB S.cells S.bounds e.nm row = b := ⟨_, rfl⟩
  have HVAL := Lib.hid (show e.val S at_ row = if bd.asked = false ∨ bd.v.k ≤ 1 then zeroV else bd.v by rw [val_eq, if_neg (by omega), if_pos hk, hbd])
  have HB := Lib.hid (bound_any hS kv1 kv2 kv3 kv4 gs m1 m2 m3 m4 B0 B1 e.nm row R cr d W (HW.out.keep hbw).si hfd hns hnz hr (hrow.below (hbw.mono hB1)) (Nat.le_trans hB1 hbw.size) hcr (by omega) (hSB.1 d hdm) hrl (HW.out.keep hbw).tab)
  rw [hbd] at HB
  have ec0 : W.cell? ⟨w.heap.size, 0, none⟩ = some (.int .i64 2) := by have h := HBV.out.cell 0; rwa [show (#[.int .i64 e.k, .int .i64 e.op, .string e.nm, .int .i64 e.v.k, .int .i64 e.v.n, .string e.v.s, .slice X1 e.v.l.length x1, .slice X2 e.ar.length x2] : Array Value)[0]? = some (.int .i64 2) from by rw [hk]; rfl] at h
  have ec2 : W.cell? ⟨w.heap.size, 2, none⟩ = some (.string e.nm) := HBV.out.cell 2
  clear hk hx0 hr0 hi0 hat hrow hr hkd hbd hk2 hfd hns hnz hdl hdm
  obtain ⟨n, hn1⟩ : ∃ n, row.length = n := ⟨_, rfl⟩
  rw [hl, hn1]
  rw [hn1] at hl hcr hrl
  rw [hl] at hca
  rw [hn1] at HB
  go_enter Tryz.func20, Tryz.ntmps20
  go_upto_region 1 with (fail)
  rw [← hW]
  clear hW hsz
  go_upto_region 6 with (go_at_call 46; (with_reducible refine HB.out.mono ?_); rintro e2 w2 ⟨⟨cs2, rfl, ⟨E1, y1, E2, y2, rfl, -, hre⟩, -, -, hsb, hlb⟩, hb2⟩)
  obtain ⟨W3, hw6⟩ : ∃ w6, w6 = w2.alloc (.cells #[.string bd.nm, .slice E1 bd.row.length y1, .int .i64 bd.v.k, .int .i64 bd.v.n, .string bd.v.s, .slice E2 bd.v.l.length y2, .bool bd.asked] 88 (0, 0)) := ⟨_, rfl⟩
  rw [← hw6]
  have hb23 : Below w2.heap.size w2 W3 := hw6 ▸ below_a w2 _
  have hbW3 : Below W.heap.size W W3 := hb2.trans (hb23.mono hb2.size)
  have hbw3 := hbw.trans (hbW3.mono hbw.size)
  have B3 : Blk W3 w2.heap.size 88 #[.string bd.nm, .slice E1 bd.row.length y1, .int .i64 bd.v.k, .int .i64 bd.v.n, .string bd.v.s, .slice E2 bd.v.l.length y2, .bool bd.asked] := hw6 ▸ Blk.new w2 _ _
  have hre := hre.below (hb23.mono (Nat.le_trans hB0 (hbw.trans (hb2.mono hbw.size)).size))
  have BR3 := HBR.out.below hbW3 HBR.out.lt
  clear hw6
  have q2 : W3.cell? ⟨w2.heap.size, 2, none⟩ = some (.int .i64 bd.v.k) := B3.cell 2
  have q3 : W3.cell? ⟨w2.heap.size, 3, none⟩ = some (.int .i64 bd.v.n) := B3.cell 3
  have q4 : W3.cell? ⟨w2.heap.size, 4, none⟩ = some (.string bd.v.s) := B3.cell 4
  have q5 : W3.cell? ⟨w2.heap.size, 5, none⟩ = some (.slice E2 bd.v.l.length y2) := B3.cell 5
  have q6 : W3.cell? ⟨w2.heap.size, 6, none⟩ = some (.bool bd.asked) := B3.cell 6
  obtain ⟨r0, s0, r1, s1, r2, s2, r3, s3⟩ := Blk.z4 BR3
  obtain ⟨aq, haq⟩ : ∃ q, bd.asked = q := ⟨_, rfl⟩
  rw [haq] at q6
  have HBR3 := Lib.hid BR3
  have HRE := Lib.hid (And.intro hre (And.intro hsb hlb))
  clear B3 BR3 hre hsb hlb hb23 ec0 ec2
  cases aq
  · have HV := Lib.hid (show e.val S at_ row = zeroV by rw [HVAL.out, if_pos (.inl haq)])
    clear haq
    go_wp2_with fail
    exact end4 Tryz.results20 rfl HBR3.out hbw3 (Nat.le_succ _) (fun W9 hW9 => ⟨⟨_, rfl, by rw [HV.out]; exact VRet.zero⟩, hW9⟩)
  · by_cases hle : bd.v.k ≤ 1
    · have HV := Lib.hid (show e.val S at_ row = zeroV by rw [HVAL.out, if_pos (.inr hle)])
      clear haq
      go_wp2_with fail
      exact end4 Tryz.results20 rfl HBR3.out hbw3 (Nat.le_succ _) (fun W9 hW9 => ⟨⟨_, rfl, by rw [HV.out]; exact VRet.zero⟩, hW9⟩)
    · have HV := Lib.hid (show e.val S at_ row = bd.v by rw [HVAL.out, if_neg (by rw [haq]; rintro (h | h); cases h; exact hle h)])
      clear haq
      go_wp2_with fail
      exact end4 Tryz.results20 rfl HBR3.out hbw3 (Nat.le_succ _) (fun W9 hW9 => ⟨⟨_, rfl, by rw [HV.out]; exact ⟨_, rfl, (VAt.back ⟨⟨E2, y2, rfl, HRE.out.1⟩, HRE.out.2.1, HRE.out.2.2⟩ hbw3 hB0).keep hW9 hB0⟩⟩, hW9⟩)
theorem idxS_find (x : ByteArray) : ∀ (l : List ByteArray) (i : Nat), x ∈ l → Lib.idxFromS l x i = (i + l.findIdx (fun s => decide (s = x)) : Nat)
  | [], _, h => by cases h
  | z :: r, i, h => by
    unfold Lib.idxFromS
    rw [List.findIdx_cons]
    by_cases hz : z = x
    · rw [if_pos hz, decide_eq_true hz]; rfl
    · rw [if_neg hz, decide_eq_false hz, idxS_find x r (i + 1) ((List.mem_cons.1 h).resolve_left (fun q => hz q.symm))]
      simp only [cond_false]
      congr 1; omega
theorem eval_3 {S : SceneD} (_hS : ScOk S) (_hSB : (∀ c ∈ S.cells, c.loops.length ≤ 1048576) ∧ (∀ c ∈ S.loops, c.loops.length ≤ 1048576)) {B0 gs m1 m2 m3 m4 : Nat} {kv1 kv2 kv3 kv4 : List (ByteArray × Value)} {e : Ex} (_hf : e.fault = 0) (hk : e.k = 3) : EvSpec S B0 gs m1 m2 m3 m4 kv1 kv2 kv3 kv4 e := by
  intro at_ row Aa R ca cr B1 cs w hw hx hat hrow hB1 hl hca hcr hrl hr hkd
  have hB0 := hw.le
  have HW := Lib.hid hw
  have hgs := hw.si.blk.lt
  obtain ⟨hn0, hs0, hl0, ha0, hx0, hr0, hi0⟩ := hx
  rename_i X1 x1 X2 x2 cs0
  have HXS := Lib.hid (And.intro hx0 (And.intro hs0 hl0))
  have HAR := Lib.hid (And.intro hr0 hi0)
  have HAT := Lib.hid hat
  have HROW := Lib.hid hrow
  have HR := Lib.hid hr
  have HKD := Lib.hid hkd
  obtain ⟨W, hW, hbw, BV, BR, hsz⟩ := box2 w 27 24 #[.int .i64 e.k, .int .i64 e.op, .string e.nm, .int .i64 e.v.k, .int .i64 e.v.n, .string e.v.s, .slice X1 e.v.l.length x1, .slice X2 e.ar.length x2] #[.int .i64 0, .int .i64 0, .string ⟨#[]⟩, .slice none 0 0]
  have HBV := Lib.hid BV
  have HBR := Lib.hid BR
  rw [show exCells e X1 x1 X2 x2 = [.int .i64 e.k, .int .i64 e.op, .string e.nm, .int .i64 e.v.k, .int .i64 e.v.n, .string e.v.s, .slice X1 e.v.l.length x1, .slice X2 e.ar.length x2] from rfl]
  change Calls _ _ #[_, .agg #[.int .i64 e.k, .int .i64 e.op, .string e.nm, .int .i64 e.v.k, .int .i64 e.v.n, .string e.v.s, .slice X1 e.v.l.length x1, .slice X2 e.ar.length x2], _, _] _ _
  have hk3 : Lib.containsS at_ e.nm = true := by
    have h := hkd
    rw [kind_eq, if_neg (by omega), if_neg (by omega), if_pos hk] at h
    by_cases hq : Lib.containsS at_ e.nm = true
    · exact hq
    · rw [if_neg hq] at h; exact absurd h (by decide)
  have hmem := (Lib.containsS_iff _ _).1 hk3
  obtain ⟨ix, hix⟩ : ∃ i, at_.findIdx (fun s => decide (s = e.nm)) = i := ⟨_, rfl⟩
  have hil : ix < row.length := by rw [← hl, ← hix]; exact List.findIdx_lt_length_of_exists ⟨e.nm, hmem, by simp⟩
  have HVAL := Lib.hid (show e.val S at_ row = numeralV (10000 * row[ix]) by
    rw [val_eq, if_neg (by omega), if_neg (by omega), if_pos hk, hix, List.getD_eq_getElem?_getD, List.getElem?_eq_getElem hil]; rfl)
  have hco := hr _ (List.getElem_mem hil)
  obtain ⟨b1, o1, hA1, -, h1⟩ := (hat.below (hbw.mono hB1)).plain (by omega)
  subst hA1
  have HI := Lib.hid (show Calls Tryz.prog 48 #[.slice (some ⟨b1, o1, none⟩) at_.length ca, .string e.nm] W fun en w' => en = .returned (.int .i64 (ix : Nat)) ∧ w' = W from
    (Tryz.slices_Index_string b1 o1 at_.length ca at_ e.nm W (Nat.le_refl _) (by omega) (StrsAt.cells h1)).mono fun _ _ ⟨he, hw⟩ => ⟨by rw [he, List.take_length, show Lib.idxOfS at_ e.nm = ((ix : Nat) : Int) from by unfold Lib.idxOfS; rw [idxS_find _ _ _ hmem, hix]; simp], hw⟩)
  obtain ⟨b2, o2, hR2, -, h2⟩ := (hrow.below (hbw.mono hB1)).base (by omega) (by decide)
  subst hR2
  obtain ⟨x, hx9⟩ : ∃ x, row[ix] = x := ⟨_, rfl⟩
  have cq : W.cell? ⟨b2, o2 + ix, none⟩ = some (.int .i64 x) := h2 ix _ (by rw [← hx9]; simp [numV, hil])
  rw [hx9] at HVAL hco
  obtain ⟨hx1, hx2⟩ := hco
  have ec0 : W.cell? ⟨w.heap.size, 0, none⟩ = some (.int .i64 3) := by have h := HBV.out.cell 0; rwa [show (#[.int .i64 e.k, .int .i64 e.op, .string e.nm, .int .i64 e.v.k, .int .i64 e.v.n, .string e.v.s, .slice X1 e.v.l.length x1, .slice X2 e.ar.length x2] : Array Value)[0]? = some (.int .i64 3) from by rw [hk]; rfl] at h
  have ec2 : W.cell? ⟨w.heap.size, 2, none⟩ = some (.string e.nm) := HBV.out.cell 2
  clear hk hx0 hr0 hi0 hat hrow hr hkd hix h1 h2 hx9 hmem hk3
  rw [hl] at HI
  obtain ⟨n, hn1⟩ : ∃ n, row.length = n := ⟨_, rfl⟩
  rw [hl, hn1]
  rw [hn1] at hl hcr hrl
  rw [hl] at hca
  rw [hn1] at HI hil
  have hilI : (ix : Int) < (n : Nat) := by omega
  go_enter Tryz.func20, Tryz.ntmps20
  go_upto_region 1 with (fail)
  rw [← hW]
  clear hW hsz
  go_wp2_with (first | (go_at_call 48; (with_reducible refine HI.out.mono ?_); rintro e2 w2 ⟨rfl, rfl⟩) | (go_at_call 47; (with_reducible refine (numeral_any _ _).mono ?_); rintro e7 w7 ⟨rfl, hb7⟩; have hbw7 := hbw.trans (hb7.mono hbw.size); have B0 := HBR.out.below hb7 HBR.out.lt; obtain ⟨r0, s0, r1, s1, r2, s2, r3, s3⟩ := Blk.z4 B0; unfold vz))
  exact end4 Tryz.results20 rfl B0 hbw7 (Nat.le_succ _) (fun W9 hW9 => ⟨⟨_, rfl, by rw [HVAL.out]; exact VRet.num _⟩, hW9⟩)
end Go.Proofs.YtpanbeoelbhhgaaGreatDoor
