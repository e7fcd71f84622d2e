/- Comparisons by apply. · Comparisons by apply, nothing missing. · apply of any operation. -/
import Derived.Test.YtpanbeoelbhhgaaGreatDoorY23
namespace Go.Proofs.YtpanbeoelbhhgaaGreatDoor
open Go.RowKit
attribute [local go_sem ↓] Go.wp_at_zero Go.wp_at_succ
set_option maxHeartbeats 4000000
set_option maxRecDepth 100000
theorem apply_cmp0 (op : Int) (vs : List Val) (A : Option Addr) (c B0 B : Nat) (w : World) (hA : ArgsAt B0 w B A vs) (hB : B ≤ w.heap.size) (hB0 : B0 ≤ B) (hm : Mx w) (hok : ArgOk op vs) (ho : (4 ≤ op ∧ op ≤ 11) ∨ op = 32 ∨ op = 33) (hlost : vs.any missV = true) :
    Calls Tryz.prog 53 #[.int .i64 op, .slice A vs.length c] w fun e w' => (∃ x, e = .returned x ∧ VRet w' B0 (applyV op vs) x) ∧ Below w.heap.size w w' := by
  have hB0w : B0 ≤ w.heap.size := Nat.le_trans hB0 hB
  have hll := hA.1
  unfold maxLen at hll
  obtain ⟨W, hW⟩ : ∃ W, W = w.alloc (.cells #[.int .i64 0, .int .i64 0, .string ⟨#[]⟩, .slice none 0 0] 24 (0, 0)) := ⟨_, rfl⟩
  have hbw : Below w.heap.size w W := hW ▸ below_a w _
  have BR : Blk W w.heap.size 24 #[.int .i64 0, .int .i64 0, .string ⟨#[]⟩, .slice none 0 0] := hW ▸ Blk.new w _ _
  have hAW := hA.keep hB0 (hbw.mono hB)
  have HL := Lib.hid (containsFunc_any pred_missing vs A c B0 B W hAW (Nat.le_trans hB hbw.size) hB0)
  obtain ⟨lo, hlo⟩ : ∃ lo, vs.any missV = lo := ⟨_, rfl⟩
  have HLO := Lib.hid hlo
  rw [hlo] at HL
  obtain ⟨b, o, rfl, hb, hc⟩ := hA.base hok.l1
  obtain ⟨A0, c0', hv⟩ := hc 0 hok.l1
  rw [Nat.zero_mul, Nat.add_zero, ← arg_at hok.l1] at hv
  have hl2 := hok.l2 (by omega)
  obtain ⟨A1, c1', hu⟩ := hc 1 hl2
  rw [Nat.one_mul, ← arg_at hl2] at hu
  have HV := Lib.hid (show applyV op vs = truthV (!vs.any missV && comparedB op (argAt vs 0) (argAt vs 1)) by unfold applyV; rw [if_neg (by omega), if_neg (by omega), if_neg (by omega), if_pos ho])
  have hn0 : (0 : Int) < (vs.length : Nat) := by have := hok.l1; omega
  have hn1 : (1 : Int) < (vs.length : Nat) := by omega
  have hsz := (hok.n _ (List.getElem_mem hok.l1)).2.1
  rw [← arg_at hok.l1] at hsz
  obtain ⟨x, hx⟩ : ∃ x, argAt vs 0 = x := ⟨_, rfl⟩
  obtain ⟨y, hyy⟩ : ∃ x, argAt vs 1 = x := ⟨_, rfl⟩
  rw [hx] at hv HV hsz
  rw [hyy] at hu HV
  obtain ⟨q, hq⟩ : ∃ q, comparedB op x y = q := ⟨_, rfl⟩
  have HC := Lib.hid (fun W' (hw : Below w.heap.size w W') => by
    have h := compared_any op x y A0 A1 c0' c1' B0 W' (hv.keep hw hB0w (Nat.lt_of_lt_of_le hb hB)).at_ (hu.keep hw hB0w (Nat.lt_of_lt_of_le hb hB)).at_ (Nat.le_trans hB0w hw.size) hsz (hm.below hw) ho
    rw [hq] at h
    exact h)
  rw [hq] at HV
  have k1 : (op == 1) = false := by simp; omega
  have k2 : (op == 2) = false := by simp; omega
  have k3 : (op == 3) = false := by simp; omega
  have k4 : 4 ≤ op := by omega
  clear hx hyy hA hAW hm hc hok hq hsz
  obtain rfl : lo = true := hlo.symm.trans hlost
  rw [hlost] at HV
  clear hlo hlost HC hv hu
  by_cases k5 : op ≤ 11
  · skip
    go_enter Tryz.func53, Tryz.ntmps53
    go_upto_region 1 with (fail)
    rw [← hW]
    clear hW
    go_upto_region 9 with (go_at_call 79; (with_reducible refine HL.out.mono ?_); rintro e w2 ⟨rfl, hb2⟩; have hbw2 := hbw.trans (hb2.mono hbw.size); have B0 := BR.below hb2 BR.lt; obtain ⟨r0, s0, r1, s1, r2, s2, r3, s3⟩ := Blk.z4 B0)
    have hbw3 := hbw2.drew
    have B0 := B0.drew
    have HALL := Lib.hid True.intro
    refine wp_region_any (by kernel_rfl) ?_
    change wpAny _ _ _ _ _ _ _ (World.drew _)
    refine wpAny_take (i := 0) (v := ?v1) rfl (by kernel_rfl) (by kernel_rfl) (by kernel_rfl) (fun _ _ _ h => h) (Or.inl ⟨by rfl, ?y1⟩) ?r1
    case y1 =>
      intro w
      go_simp
      all_goals with_reducible rfl
    refine wpAny_take (i := 1) (v := ?v2) rfl (by kernel_rfl) (by kernel_rfl) (by kernel_rfl) (fun _ _ _ h => h) (Or.inl ⟨by rfl, ?y2⟩) ?r2
    case y2 =>
      intro w
      go_simp
      all_goals with_reducible rfl
    refine wpAny_take (i := 2) (v := ?v3) rfl (by kernel_rfl) (by kernel_rfl) (by kernel_rfl) (fun _ _ _ h => h) (Or.inl ⟨by rfl, ?y3⟩) ?r3
    case y3 =>
      intro w
      go_simp
      all_goals with_reducible rfl
    refine wpAny_take (i := 3) (v := undef) rfl (by kernel_rfl) (by kernel_rfl) (by kernel_rfl) (fun _ _ _ h => h) (Or.inr ⟨by rfl, rfl⟩) ?r4
    refine wpAny_take (i := 4) (v := undef) rfl (by kernel_rfl) (by kernel_rfl) (by kernel_rfl) (fun _ _ _ h => h) (Or.inr ⟨by rfl, rfl⟩) ?r5
    refine wpAny_take (i := 7) (v := undef) rfl (by kernel_rfl) (by kernel_rfl) (by kernel_rfl) (fun _ _ _ h => h) (Or.inr ⟨by rfl, rfl⟩) ?r6
    refine wpAny_ready (rs := [5, 8]) (by kernel_rfl) (by simp) ?_
    refine AllReady.cons rfl (fun K hK => ?_) ?_
    go_simp
    refine hK _ _ ?_
    clear hK K
    refine wpAny_ready (rs := [6, 8]) (by kernel_rfl) (by simp) ?_
    refine AllReady.cons rfl (fun K hK => ?_) ?_
    go_simp
    refine hK _ _ ?_
    clear hK K
    refine wpAny_ready (rs := [8]) (by kernel_rfl) (by simp) ?_
    refine AllReady.cons rfl (fun K hK => ?_) AllReady.nil
    go_simp
    refine hK _ _ ?_
    clear hK K
    refine wpAny_ready (rs := [9]) (by kernel_rfl) (by simp) ?_
    refine AllReady.cons rfl (fun K hK => ?_) AllReady.nil
    go_simp
    refine hK _ _ ?_
    clear hK K
    refine wpAny_ready (rs := [10]) (by kernel_rfl) (by simp) ?_
    refine AllReady.cons rfl (fun K hK => ?_) AllReady.nil
    go_simp
    refine hK _ _ ?_
    clear hK K
    rotate_left
    refine AllReady.cons rfl (fun K hK => ?_) AllReady.nil
    go_simp
    refine hK _ _ ?_
    clear hK K
    refine wpAny_ready (rs := [6, 9]) (by kernel_rfl) (by simp) ?_
    refine AllReady.cons rfl (fun K hK => ?_) ?_
    go_simp
    refine hK _ _ ?_
    clear hK K
    refine wpAny_ready (rs := [9]) (by kernel_rfl) (by simp) ?_
    refine AllReady.cons rfl (fun K hK => ?_) AllReady.nil
    go_simp
    refine hK _ _ ?_
    clear hK K
    refine wpAny_ready (rs := [10]) (by kernel_rfl) (by simp) ?_
    refine AllReady.cons rfl (fun K hK => ?_) AllReady.nil
    go_simp
    refine hK _ _ ?_
    clear hK K
    rotate_left
    refine AllReady.cons rfl (fun K hK => ?_) AllReady.nil
    go_simp
    refine hK _ _ ?_
    clear hK K
    refine wpAny_ready (rs := [6]) (by kernel_rfl) (by simp) ?_
    refine AllReady.cons rfl (fun K hK => ?_) AllReady.nil
    go_simp
    refine hK _ _ ?_
    clear hK K
    refine wpAny_ready (rs := [10]) (by kernel_rfl) (by simp) ?_
    refine AllReady.cons rfl (fun K hK => ?_) AllReady.nil
    go_simp
    refine hK _ _ ?_
    clear hK K
    rotate_left
    refine AllReady.cons rfl (fun K hK => ?_) AllReady.nil
    go_simp
    refine hK _ _ ?_
    clear hK K
    refine wpAny_ready (rs := [5, 9]) (by kernel_rfl) (by simp) ?_
    refine AllReady.cons rfl (fun K hK => ?_) ?_
    go_simp
    refine hK _ _ ?_
    clear hK K
    refine wpAny_ready (rs := [6, 9]) (by kernel_rfl) (by simp) ?_
    refine AllReady.cons rfl (fun K hK => ?_) ?_
    go_simp
    refine hK _ _ ?_
    clear hK K
    refine wpAny_ready (rs := [9]) (by kernel_rfl) (by simp) ?_
    refine AllReady.cons rfl (fun K hK => ?_) AllReady.nil
    go_simp
    refine hK _ _ ?_
    clear hK K
    refine wpAny_ready (rs := [10]) (by kernel_rfl) (by simp) ?_
    refine AllReady.cons rfl (fun K hK => ?_) AllReady.nil
    go_simp
    refine hK _ _ ?_
    clear hK K
    rotate_left
    refine AllReady.cons rfl (fun K hK => ?_) AllReady.nil
    go_simp
    refine hK _ _ ?_
    clear hK K
    refine wpAny_ready (rs := [6]) (by kernel_rfl) (by simp) ?_
    refine AllReady.cons rfl (fun K hK => ?_) AllReady.nil
    go_simp
    refine hK _ _ ?_
    clear hK K
    refine wpAny_ready (rs := [10]) (by kernel_rfl) (by simp) ?_
    refine AllReady.cons rfl (fun K hK => ?_) AllReady.nil
    go_simp
    refine hK _ _ ?_
    clear hK K
    rotate_left
    refine AllReady.cons rfl (fun K hK => ?_) AllReady.nil
    go_simp
    refine hK _ _ ?_
    clear hK K
    refine wpAny_ready (rs := [5]) (by kernel_rfl) (by simp) ?_
    refine AllReady.cons rfl (fun K hK => ?_) AllReady.nil
    go_simp
    refine hK _ _ ?_
    clear hK K
    refine wpAny_ready (rs := [6]) (by kernel_rfl) (by simp) ?_
    refine AllReady.cons rfl (fun K hK => ?_) AllReady.nil
    go_simp
    refine hK _ _ ?_
    clear hK K
    refine wpAny_ready (rs := [10]) (by kernel_rfl) (by simp) ?_
    refine AllReady.cons rfl (fun K hK => ?_) AllReady.nil
    go_simp
    refine hK _ _ ?_
    clear hK K
    rotate_left
    all_goals clear HALL
    all_goals
      refine wpAny_ready (rs := [11]) (by kernel_rfl) (by simp) ?_
      refine AllReady.cons rfl (fun K hK => ?_) AllReady.nil
      go_simp
      refine hK _ _ ?_
      clear hK K
      refine wpAny_ready (rs := [12]) (by kernel_rfl) (by simp) ?_
      refine AllReady.cons rfl (fun K hK => ?_) AllReady.nil
      go_simp
      go_wp2_with fail
      (with_reducible refine (truth_any _ _).mono ?_)
      rintro e w4 ⟨rfl, hb4⟩
      have hbw4 := hbw3.trans (hb4.mono hbw3.size)
      have B0 := B0.below hb4 B0.lt
      obtain ⟨r0, s0, r1, s1, r2, s2, r3, s3⟩ := Blk.z4 B0
      unfold vz
      go_wp2_with fail
      refine wpAny_ready (rs := [13]) (by kernel_rfl) (by simp) ?_
      refine AllReady.cons rfl (fun K hK => ?_) AllReady.nil
      go_simp
      go_wp2_with fail
      refine wpAny_done (by kernel_rfl) ?_ _
      go_wp2_with fail
      exact end4 Tryz.results53 rfl B0 hbw4 (Nat.le_refl _) (fun W5 hW5 => ⟨⟨_, rfl, by rw [HV.out]; exact VRet.truth _⟩, hW5⟩)
  · by_cases k6 : (op == 32) = true
    · skip
      go_enter Tryz.func53, Tryz.ntmps53
      go_upto_region 1 with (fail)
      rw [← hW]
      clear hW
      go_upto_region 9 with (go_at_call 79; (with_reducible refine HL.out.mono ?_); rintro e w2 ⟨rfl, hb2⟩; have hbw2 := hbw.trans (hb2.mono hbw.size); have B0 := BR.below hb2 BR.lt; obtain ⟨r0, s0, r1, s1, r2, s2, r3, s3⟩ := Blk.z4 B0)
      have hbw3 := hbw2.drew
      have B0 := B0.drew
      have HALL := Lib.hid True.intro
      refine wp_region_any (by kernel_rfl) ?_
      change wpAny _ _ _ _ _ _ _ (World.drew _)
      refine wpAny_take (i := 0) (v := ?v7) rfl (by kernel_rfl) (by kernel_rfl) (by kernel_rfl) (fun _ _ _ h => h) (Or.inl ⟨by rfl, ?y7⟩) ?r7
      case y7 =>
        intro w
        go_simp
        all_goals with_reducible rfl
      refine wpAny_take (i := 1) (v := ?v8) rfl (by kernel_rfl) (by kernel_rfl) (by kernel_rfl) (fun _ _ _ h => h) (Or.inl ⟨by rfl, ?y8⟩) ?r8
      case y8 =>
        intro w
        go_simp
        all_goals with_reducible rfl
      refine wpAny_take (i := 2) (v := ?v9) rfl (by kernel_rfl) (by kernel_rfl) (by kernel_rfl) (fun _ _ _ h => h) (Or.inl ⟨by rfl, ?y9⟩) ?r9
      case y9 =>
        intro w
        go_simp
        all_goals with_reducible rfl
      refine wpAny_take (i := 3) (v := undef) rfl (by kernel_rfl) (by kernel_rfl) (by kernel_rfl) (fun _ _ _ h => h) (Or.inr ⟨by rfl, rfl⟩) ?r10
      refine wpAny_take (i := 4) (v := undef) rfl (by kernel_rfl) (by kernel_rfl) (by kernel_rfl) (fun _ _ _ h => h) (Or.inr ⟨by rfl, rfl⟩) ?r11
      refine wpAny_take (i := 7) (v := undef) rfl (by kernel_rfl) (by kernel_rfl) (by kernel_rfl) (fun _ _ _ h => h) (Or.inr ⟨by rfl, rfl⟩) ?r12
      refine wpAny_ready (rs := [5, 8]) (by kernel_rfl) (by simp) ?_
      refine AllReady.cons rfl (fun K hK => ?_) ?_
      go_simp
      refine hK _ _ ?_
      clear hK K
      refine wpAny_ready (rs := [6, 8]) (by kernel_rfl) (by simp) ?_
      refine AllReady.cons rfl (fun K hK => ?_) ?_
      go_simp
      refine hK _ _ ?_
      clear hK K
      refine wpAny_ready (rs := [8]) (by kernel_rfl) (by simp) ?_
      refine AllReady.cons rfl (fun K hK => ?_) AllReady.nil
      go_simp
      refine hK _ _ ?_
      clear hK K
      refine wpAny_ready (rs := [9]) (by kernel_rfl) (by simp) ?_
      refine AllReady.cons rfl (fun K hK => ?_) AllReady.nil
      go_simp
      refine hK _ _ ?_
      clear hK K
      refine wpAny_ready (rs := [10]) (by kernel_rfl) (by simp) ?_
      refine AllReady.cons rfl (fun K hK => ?_) AllReady.nil
      go_simp
      refine hK _ _ ?_
      clear hK K
      rotate_left
      refine AllReady.cons rfl (fun K hK => ?_) AllReady.nil
      go_simp
      refine hK _ _ ?_
      clear hK K
      refine wpAny_ready (rs := [6, 9]) (by kernel_rfl) (by simp) ?_
      refine AllReady.cons rfl (fun K hK => ?_) ?_
      go_simp
      refine hK _ _ ?_
      clear hK K
      refine wpAny_ready (rs := [9]) (by kernel_rfl) (by simp) ?_
      refine AllReady.cons rfl (fun K hK => ?_) AllReady.nil
      go_simp
      refine hK _ _ ?_
      clear hK K
      refine wpAny_ready (rs := [10]) (by kernel_rfl) (by simp) ?_
      refine AllReady.cons rfl (fun K hK => ?_) AllReady.nil
      go_simp
      refine hK _ _ ?_
      clear hK K
      rotate_left
      refine AllReady.cons rfl (fun K hK => ?_) AllReady.nil
      go_simp
      refine hK _ _ ?_
      clear hK K
      refine wpAny_ready (rs := [6]) (by kernel_rfl) (by simp) ?_
      refine AllReady.cons rfl (fun K hK => ?_) AllReady.nil
      go_simp
      refine hK _ _ ?_
      clear hK K
      refine wpAny_ready (rs := [10]) (by kernel_rfl) (by simp) ?_
      refine AllReady.cons rfl (fun K hK => ?_) AllReady.nil
      go_simp
      refine hK _ _ ?_
      clear hK K
      rotate_left
      refine AllReady.cons rfl (fun K hK => ?_) AllReady.nil
      go_simp
      refine hK _ _ ?_
      clear hK K
      refine wpAny_ready (rs := [5, 9]) (by kernel_rfl) (by simp) ?_
      refine AllReady.cons rfl (fun K hK => ?_) ?_
      go_simp
      refine hK _ _ ?_
      clear hK K
      refine wpAny_ready (rs := [6, 9]) (by kernel_rfl) (by simp) ?_
      refine AllReady.cons rfl (fun K hK => ?_) ?_
      go_simp
      refine hK _ _ ?_
      clear hK K
      refine wpAny_ready (rs := [9]) (by kernel_rfl) (by simp) ?_
      refine AllReady.cons rfl (fun K hK => ?_) AllReady.nil
      go_simp
      refine hK _ _ ?_
      clear hK K
      refine wpAny_ready (rs := [10]) (by kernel_rfl) (by simp) ?_
      refine AllReady.cons rfl (fun K hK => ?_) AllReady.nil
      go_simp
      refine hK _ _ ?_
      clear hK K
      rotate_left
      refine AllReady.cons rfl (fun K hK => ?_) AllReady.nil
      go_simp
      refine hK _ _ ?_
      clear hK K
      refine wpAny_ready (rs := [6]) (by kernel_rfl) (by simp) ?_
      refine AllReady.cons rfl (fun K hK => ?_) AllReady.nil
      go_simp
      refine hK _ _ ?_
      clear hK K
      refine wpAny_ready (rs := [10]) (by kernel_rfl) (by simp) ?_
      refine AllReady.cons rfl (fun K hK => ?_) AllReady.nil
      go_simp
      refine hK _ _ ?_
      clear hK K
      rotate_left
      refine AllReady.cons rfl (fun K hK => ?_) AllReady.nil
      go_simp
      refine hK _ _ ?_
      clear hK K
      refine wpAny_ready (rs := [5]) (by kernel_rfl) (by simp) ?_
      refine AllReady.cons rfl (fun K hK => ?_) AllReady.nil
      go_simp
      refine hK _ _ ?_
      clear hK K
      refine wpAny_ready (rs := [6]) (by kernel_rfl) (by simp) ?_
      refine AllReady.cons rfl (fun K hK => ?_) AllReady.nil
      go_simp
      refine hK _ _ ?_
      clear hK K
      refine wpAny_ready (rs := [10]) (by kernel_rfl) (by simp) ?_
      refine AllReady.cons rfl (fun K hK => ?_) AllReady.nil
      go_simp
      refine hK _ _ ?_
      clear hK K
      rotate_left
      all_goals clear HALL
      all_goals
        refine wpAny_ready (rs := [11]) (by kernel_rfl) (by simp) ?_
        refine AllReady.cons rfl (fun K hK => ?_) AllReady.nil
        go_simp
        refine hK _ _ ?_
        clear hK K
        refine wpAny_ready (rs := [12]) (by kernel_rfl) (by simp) ?_
        refine AllReady.cons rfl (fun K hK => ?_) AllReady.nil
        go_simp
        go_wp2_with fail
        (with_reducible refine (truth_any _ _).mono ?_)
        rintro e w4 ⟨rfl, hb4⟩
        have hbw4 := hbw3.trans (hb4.mono hbw3.size)
        have B0 := B0.below hb4 B0.lt
        obtain ⟨r0, s0, r1, s1, r2, s2, r3, s3⟩ := Blk.z4 B0
        unfold vz
        go_wp2_with fail
        refine wpAny_ready (rs := [13]) (by kernel_rfl) (by simp) ?_
        refine AllReady.cons rfl (fun K hK => ?_) AllReady.nil
        go_simp
        go_wp2_with fail
        refine wpAny_done (by kernel_rfl) ?_ _
        go_wp2_with fail
        exact end4 Tryz.results53 rfl B0 hbw4 (Nat.le_refl _) (fun W5 hW5 => ⟨⟨_, rfl, by rw [HV.out]; exact VRet.truth _⟩, hW5⟩)
    · have k6 : (op == 32) = false := by simpa using k6
      have k7 : (op == 33) = true := by simp at k6 ⊢; omega
      go_enter Tryz.func53, Tryz.ntmps53
      go_upto_region 1 with (fail)
      rw [← hW]
      clear hW
      go_upto_region 9 with (go_at_call 79; (with_reducible refine HL.out.mono ?_); rintro e w2 ⟨rfl, hb2⟩; have hbw2 := hbw.trans (hb2.mono hbw.size); have B0 := BR.below hb2 BR.lt; obtain ⟨r0, s0, r1, s1, r2, s2, r3, s3⟩ := Blk.z4 B0)
      have hbw3 := hbw2.drew
      have B0 := B0.drew
      have HALL := Lib.hid True.intro
      refine wp_region_any (by kernel_rfl) ?_
      change wpAny _ _ _ _ _ _ _ (World.drew _)
      refine wpAny_take (i := 0) (v := ?v13) rfl (by kernel_rfl) (by kernel_rfl) (by kernel_rfl) (fun _ _ _ h => h) (Or.inl ⟨by rfl, ?y13⟩) ?r13
      case y13 =>
        intro w
        go_simp
        all_goals with_reducible rfl
      refine wpAny_take (i := 1) (v := ?v14) rfl (by kernel_rfl) (by kernel_rfl) (by kernel_rfl) (fun _ _ _ h => h) (Or.inl ⟨by rfl, ?y14⟩) ?r14
      case y14 =>
        intro w
        go_simp
        all_goals with_reducible rfl
      refine wpAny_take (i := 2) (v := ?v15) rfl (by kernel_rfl) (by kernel_rfl) (by kernel_rfl) (fun _ _ _ h => h) (Or.inl ⟨by rfl, ?y15⟩) ?r15
      case y15 =>
        intro w
        go_simp
        all_goals with_reducible rfl
      refine wpAny_take (i := 3) (v := undef) rfl (by kernel_rfl) (by kernel_rfl) (by kernel_rfl) (fun _ _ _ h => h) (Or.inr ⟨by rfl, rfl⟩) ?r16
      refine wpAny_take (i := 4) (v := undef) rfl (by kernel_rfl) (by kernel_rfl) (by kernel_rfl) (fun _ _ _ h => h) (Or.inr ⟨by rfl, rfl⟩) ?r17
      refine wpAny_take (i := 7) (v := undef) rfl (by kernel_rfl) (by kernel_rfl) (by kernel_rfl) (fun _ _ _ h => h) (Or.inr ⟨by rfl, rfl⟩) ?r18
      refine wpAny_ready (rs := [5, 8]) (by kernel_rfl) (by simp) ?_
      refine AllReady.cons rfl (fun K hK => ?_) ?_
      go_simp
      refine hK _ _ ?_
      clear hK K
      refine wpAny_ready (rs := [6, 8]) (by kernel_rfl) (by simp) ?_
      refine AllReady.cons rfl (fun K hK => ?_) ?_
      go_simp
      refine hK _ _ ?_
      clear hK K
      refine wpAny_ready (rs := [8]) (by kernel_rfl) (by simp) ?_
      refine AllReady.cons rfl (fun K hK => ?_) AllReady.nil
      go_simp
      refine hK _ _ ?_
      clear hK K
      refine wpAny_ready (rs := [9]) (by kernel_rfl) (by simp) ?_
      refine AllReady.cons rfl (fun K hK => ?_) AllReady.nil
      go_simp
      refine hK _ _ ?_
      clear hK K
      refine wpAny_ready (rs := [10]) (by kernel_rfl) (by simp) ?_
      refine AllReady.cons rfl (fun K hK => ?_) AllReady.nil
      go_simp
      refine hK _ _ ?_
      clear hK K
      rotate_left
      refine AllReady.cons rfl (fun K hK => ?_) AllReady.nil
      go_simp
      refine hK _ _ ?_
      clear hK K
      refine wpAny_ready (rs := [6, 9]) (by kernel_rfl) (by simp) ?_
      refine AllReady.cons rfl (fun K hK => ?_) ?_
      go_simp
      refine hK _ _ ?_
      clear hK K
      refine wpAny_ready (rs := [9]) (by kernel_rfl) (by simp) ?_
      refine AllReady.cons rfl (fun K hK => ?_) AllReady.nil
      go_simp
      refine hK _ _ ?_
      clear hK K
      refine wpAny_ready (rs := [10]) (by kernel_rfl) (by simp) ?_
      refine AllReady.cons rfl (fun K hK => ?_) AllReady.nil
      go_simp
      refine hK _ _ ?_
      clear hK K
      rotate_left
      refine AllReady.cons rfl (fun K hK => ?_) AllReady.nil
      go_simp
      refine hK _ _ ?_
      clear hK K
      refine wpAny_ready (rs := [6]) (by kernel_rfl) (by simp) ?_
      refine AllReady.cons rfl (fun K hK => ?_) AllReady.nil
      go_simp
      refine hK _ _ ?_
      clear hK K
      refine wpAny_ready (rs := [10]) (by kernel_rfl) (by simp) ?_
      refine AllReady.cons rfl (fun K hK => ?_) AllReady.nil
      go_simp
      refine hK _ _ ?_
      clear hK K
      rotate_left
      refine AllReady.cons rfl (fun K hK => ?_) AllReady.nil
      go_simp
      refine hK _ _ ?_
      clear hK K
      refine wpAny_ready (rs := [5, 9]) (by kernel_rfl) (by simp) ?_
      refine AllReady.cons rfl (fun K hK => ?_) ?_
      go_simp
      refine hK _ _ ?_
      clear hK K
      refine wpAny_ready (rs := [6, 9]) (by kernel_rfl) (by simp) ?_
      refine AllReady.cons rfl (fun K hK => ?_) ?_
      go_simp
      refine hK _ _ ?_
      clear hK K
      refine wpAny_ready (rs := [9]) (by kernel_rfl) (by simp) ?_
      refine AllReady.cons rfl (fun K hK => ?_) AllReady.nil
      go_simp
      refine hK _ _ ?_
      clear hK K
      refine wpAny_ready (rs := [10]) (by kernel_rfl) (by simp) ?_
      refine AllReady.cons rfl (fun K hK => ?_) AllReady.nil
      go_simp
      refine hK _ _ ?_
      clear hK K
      rotate_left
      refine AllReady.cons rfl (fun K hK => ?_) AllReady.nil
      go_simp
      refine hK _ _ ?_
      clear hK K
      refine wpAny_ready (rs := [6]) (by kernel_rfl) (by simp) ?_
      refine AllReady.cons rfl (fun K hK => ?_) AllReady.nil
      go_simp
      refine hK _ _ ?_
      clear hK K
      refine wpAny_ready (rs := [10]) (by kernel_rfl) (by simp) ?_
      refine AllReady.cons rfl (fun K hK => ?_) AllReady.nil
      go_simp
      refine hK _ _ ?_
      clear hK K
      rotate_left
      refine AllReady.cons rfl (fun K hK => ?_) AllReady.nil
      go_simp
      refine hK _ _ ?_
      clear hK K
      refine wpAny_ready (rs := [5]) (by kernel_rfl) (by simp) ?_
      refine AllReady.cons rfl (fun K hK => ?_) AllReady.nil
      go_simp
      refine hK _ _ ?_
      clear hK K
      refine wpAny_ready (rs := [6]) (by kernel_rfl) (by simp) ?_
      refine AllReady.cons rfl (fun K hK => ?_) AllReady.nil
      go_simp
      refine hK _ _ ?_
      clear hK K
      refine wpAny_ready (rs := [10]) (by kernel_rfl) (by simp) ?_
      refine AllReady.cons rfl (fun K hK => ?_) AllReady.nil
      go_simp
      refine hK _ _ ?_
      clear hK K
      rotate_left
      all_goals clear HALL
      all_goals
        refine wpAny_ready (rs := [11]) (by kernel_rfl) (by simp) ?_
        refine AllReady.cons rfl (fun K hK => ?_) AllReady.nil
        go_simp
        refine hK _ _ ?_
        clear hK K
        refine wpAny_ready (rs := [12]) (by kernel_rfl) (by simp) ?_
        refine AllReady.cons rfl (fun K hK => ?_) AllReady.nil
        go_simp
        go_wp2_with fail
        (with_reducible refine (truth_any _ _).mono ?_)
        rintro e w4 ⟨rfl, hb4⟩
        have hbw4 := hbw3.trans (hb4.mono hbw3.size)
        have B0 := B0.below hb4 B0.lt
        obtain ⟨r0, s0, r1, s1, r2, s2, r3, s3⟩ := Blk.z4 B0
        unfold vz
        go_wp2_with fail
        refine wpAny_ready (rs := [13]) (by kernel_rfl) (by simp) ?_
        refine AllReady.cons rfl (fun K hK => ?_) AllReady.nil
        go_simp
        go_wp2_with fail
        refine wpAny_done (by kernel_rfl) ?_ _
        go_wp2_with fail
        exact end4 Tryz.results53 rfl B0 hbw4 (Nat.le_refl _) (fun W5 hW5 => ⟨⟨_, rfl, by rw [HV.out]; exact VRet.truth _⟩, hW5⟩)
end Go.Proofs.YtpanbeoelbhhgaaGreatDoor
namespace Go.Proofs.YtpanbeoelbhhgaaGreatDoor
open Go.RowKit
attribute [local go_sem ↓] Go.wp_at_zero Go.wp_at_succ
set_option maxHeartbeats 4000000
set_option maxRecDepth 100000
theorem apply_cmp1 (op : Int) (vs : List Val) (A : Option Addr) (c B0 B : Nat) (w : World) (hA : ArgsAt B0 w B A vs) (hB : B ≤ w.heap.size) (hB0 : B0 ≤ B) (hm : Mx w) (hok : ArgOk op vs) (ho : (4 ≤ op ∧ op ≤ 11) ∨ op = 32 ∨ op = 33) (hlost : vs.any missV = false) :
    Calls Tryz.prog 53 #[.int .i64 op, .slice A vs.length c] w fun e w' => (∃ x, e = .returned x ∧ VRet w' B0 (applyV op vs) x) ∧ Below w.heap.size w w' := by
  have hB0w : B0 ≤ w.heap.size := Nat.le_trans hB0 hB
  have hll := hA.1
  unfold maxLen at hll
  obtain ⟨W, hW⟩ : ∃ W, W = w.alloc (.cells #[.int .i64 0, .int .i64 0, .string ⟨#[]⟩, .slice none 0 0] 24 (0, 0)) := ⟨_, rfl⟩
  have hbw : Below w.heap.size w W := hW ▸ below_a w _
  have BR : Blk W w.heap.size 24 #[.int .i64 0, .int .i64 0, .string ⟨#[]⟩, .slice none 0 0] := hW ▸ Blk.new w _ _
  have hAW := hA.keep hB0 (hbw.mono hB)
  have HL := Lib.hid (containsFunc_any pred_missing vs A c B0 B W hAW (Nat.le_trans hB hbw.size) hB0)
  obtain ⟨lo, hlo⟩ : ∃ lo, vs.any missV = lo := ⟨_, rfl⟩
  have HLO := Lib.hid hlo
  rw [hlo] at HL
  obtain ⟨b, o, rfl, hb, hc⟩ := hA.base hok.l1
  obtain ⟨A0, c0', hv⟩ := hc 0 hok.l1
  rw [Nat.zero_mul, Nat.add_zero, ← arg_at hok.l1] at hv
  have hl2 := hok.l2 (by omega)
  obtain ⟨A1, c1', hu⟩ := hc 1 hl2
  rw [Nat.one_mul, ← arg_at hl2] at hu
  have HV := Lib.hid (show applyV op vs = truthV (!vs.any missV && comparedB op (argAt vs 0) (argAt vs 1)) by unfold applyV; rw [if_neg (by omega), if_neg (by omega), if_neg (by omega), if_pos ho])
  have hn0 : (0 : Int) < (vs.length : Nat) := by have := hok.l1; omega
  have hn1 : (1 : Int) < (vs.length : Nat) := by omega
  have hsz := (hok.n _ (List.getElem_mem hok.l1)).2.1
  rw [← arg_at hok.l1] at hsz
  obtain ⟨x, hx⟩ : ∃ x, argAt vs 0 = x := ⟨_, rfl⟩
  obtain ⟨y, hyy⟩ : ∃ x, argAt vs 1 = x := ⟨_, rfl⟩
  rw [hx] at hv HV hsz
  rw [hyy] at hu HV
  obtain ⟨q, hq⟩ : ∃ q, comparedB op x y = q := ⟨_, rfl⟩
  have HC := Lib.hid (fun W' (hw : Below w.heap.size w W') => by
    have h := compared_any op x y A0 A1 c0' c1' B0 W' (hv.keep hw hB0w (Nat.lt_of_lt_of_le hb hB)).at_ (hu.keep hw hB0w (Nat.lt_of_lt_of_le hb hB)).at_ (Nat.le_trans hB0w hw.size) hsz (hm.below hw) ho
    rw [hq] at h
    exact h)
  rw [hq] at HV
  have k1 : (op == 1) = false := by simp; omega
  have k2 : (op == 2) = false := by simp; omega
  have k3 : (op == 3) = false := by simp; omega
  have k4 : 4 ≤ op := by omega
  clear hx hyy hA hAW hm hc hok hq hsz
  obtain rfl : lo = false := hlo.symm.trans hlost
  rw [hlost] at HV
  clear hlo hlost
  by_cases k5 : op ≤ 11
  · skip
    go_enter Tryz.func53, Tryz.ntmps53
    go_upto_region 1 with (fail)
    rw [← hW]
    clear hW
    go_upto_region 9 with (go_at_call 79; (with_reducible refine HL.out.mono ?_); rintro e w2 ⟨rfl, hb2⟩; have hbw2 := hbw.trans (hb2.mono hbw.size); have B0 := BR.below hb2 BR.lt; obtain ⟨r0, s0, r1, s1, r2, s2, r3, s3⟩ := Blk.z4 B0; obtain ⟨v0, v1, v2, v3, -, -, -⟩ := hv.keep hbw2 hB0w (Nat.lt_of_lt_of_le hb hB); obtain ⟨u0, u1, u2, u3, -, -, -⟩ := hu.keep hbw2 hB0w (Nat.lt_of_lt_of_le hb hB))
    have hbw3 := hbw2.drew
    have B0 := B0.drew
    have HALL := Lib.hid True.intro
    refine wp_region_any (by kernel_rfl) ?_
    change wpAny _ _ _ _ _ _ _ (World.drew _)
    refine wpAny_take (i := 0) (v := ?v19) rfl (by kernel_rfl) (by kernel_rfl) (by kernel_rfl) (fun _ _ _ h => h) (Or.inl ⟨by rfl, ?y19⟩) ?r19
    case y19 =>
      intro w
      go_simp
      all_goals with_reducible rfl
    refine wpAny_take (i := 1) (v := ?v20) rfl (by kernel_rfl) (by kernel_rfl) (by kernel_rfl) (fun _ _ _ h => h) (Or.inl ⟨by rfl, ?y20⟩) ?r20
    case y20 =>
      intro w
      go_simp
      all_goals with_reducible rfl
    refine wpAny_take (i := 2) (v := ?v21) rfl (by kernel_rfl) (by kernel_rfl) (by kernel_rfl) (fun _ _ _ h => h) (Or.inl ⟨by rfl, ?y21⟩) ?r21
    case y21 =>
      intro w
      go_simp
      all_goals with_reducible rfl
    refine wpAny_take (i := 3) (v := ?v22) rfl (by kernel_rfl) (by kernel_rfl) (by kernel_rfl) (fun _ _ _ h => h) (Or.inl ⟨by rfl, ?y22⟩) ?r22
    case y22 =>
      intro w
      go_simp
      all_goals with_reducible rfl
    refine wpAny_take (i := 4) (v := ?v23) rfl (by kernel_rfl) (by kernel_rfl) (by kernel_rfl) (fun _ _ _ h => h) (Or.inl ⟨by rfl, ?y23⟩) ?r23
    case y23 =>
      intro w
      go_simp
      all_goals with_reducible rfl
    refine wpAny_take (i := 7) (v := ?v24) rfl (by kernel_rfl) (by kernel_rfl) (by kernel_rfl) (fun _ _ _ h => h) (Or.inl ⟨by rfl, ?y24⟩) ?r24
    case y24 =>
      intro w
      go_simp
      all_goals with_reducible rfl
    refine wpAny_ready (rs := [5, 8]) (by kernel_rfl) (by simp) ?_
    refine AllReady.cons rfl (fun K hK => ?_) ?_
    go_simp
    go_wp2_with fail
    try refine hK _ _ ?_
    try clear hK K
    refine wpAny_ready (rs := [6, 8]) (by kernel_rfl) (by simp) ?_
    refine AllReady.cons rfl (fun K hK => ?_) ?_
    go_simp
    go_wp2_with fail
    try refine hK _ _ ?_
    try clear hK K
    refine wpAny_ready (rs := [8]) (by kernel_rfl) (by simp) ?_
    refine AllReady.cons rfl (fun K hK => ?_) AllReady.nil
    go_simp
    go_wp2_with fail
    try refine hK _ _ ?_
    try clear hK K
    refine wpAny_ready (rs := [9]) (by kernel_rfl) (by simp) ?_
    refine AllReady.cons rfl (fun K hK => ?_) AllReady.nil
    go_simp
    go_wp2_with fail
    try refine hK _ _ ?_
    try clear hK K
    rotate_left
    refine AllReady.cons rfl (fun K hK => ?_) AllReady.nil
    go_simp
    go_wp2_with fail
    try refine hK _ _ ?_
    try clear hK K
    refine wpAny_ready (rs := [6, 9]) (by kernel_rfl) (by simp) ?_
    refine AllReady.cons rfl (fun K hK => ?_) ?_
    go_simp
    go_wp2_with fail
    try refine hK _ _ ?_
    try clear hK K
    refine wpAny_ready (rs := [9]) (by kernel_rfl) (by simp) ?_
    refine AllReady.cons rfl (fun K hK => ?_) AllReady.nil
    go_simp
    go_wp2_with fail
    try refine hK _ _ ?_
    try clear hK K
    rotate_left
    refine AllReady.cons rfl (fun K hK => ?_) AllReady.nil
    go_simp
    go_wp2_with fail
    try refine hK _ _ ?_
    try clear hK K
    refine wpAny_ready (rs := [6]) (by kernel_rfl) (by simp) ?_
    refine AllReady.cons rfl (fun K hK => ?_) AllReady.nil
    go_simp
    go_wp2_with fail
    try refine hK _ _ ?_
    try clear hK K
    rotate_left
    refine AllReady.cons rfl (fun K hK => ?_) AllReady.nil
    go_simp
    go_wp2_with fail
    try refine hK _ _ ?_
    try clear hK K
    refine wpAny_ready (rs := [5, 9]) (by kernel_rfl) (by simp) ?_
    refine AllReady.cons rfl (fun K hK => ?_) ?_
    go_simp
    go_wp2_with fail
    try refine hK _ _ ?_
    try clear hK K
    refine wpAny_ready (rs := [6, 9]) (by kernel_rfl) (by simp) ?_
    refine AllReady.cons rfl (fun K hK => ?_) ?_
    go_simp
    go_wp2_with fail
    try refine hK _ _ ?_
    try clear hK K
    refine wpAny_ready (rs := [9]) (by kernel_rfl) (by simp) ?_
    refine AllReady.cons rfl (fun K hK => ?_) AllReady.nil
    go_simp
    go_wp2_with fail
    try refine hK _ _ ?_
    try clear hK K
    rotate_left
    refine AllReady.cons rfl (fun K hK => ?_) AllReady.nil
    go_simp
    go_wp2_with fail
    try refine hK _ _ ?_
    try clear hK K
    refine wpAny_ready (rs := [6]) (by kernel_rfl) (by simp) ?_
    refine AllReady.cons rfl (fun K hK => ?_) AllReady.nil
    go_simp
    go_wp2_with fail
    try refine hK _ _ ?_
    try clear hK K
    rotate_left
    refine AllReady.cons rfl (fun K hK => ?_) AllReady.nil
    go_simp
    go_wp2_with fail
    try refine hK _ _ ?_
    try clear hK K
    refine wpAny_ready (rs := [5]) (by kernel_rfl) (by simp) ?_
    refine AllReady.cons rfl (fun K hK => ?_) AllReady.nil
    go_simp
    go_wp2_with fail
    try refine hK _ _ ?_
    try clear hK K
    refine wpAny_ready (rs := [6]) (by kernel_rfl) (by simp) ?_
    refine AllReady.cons rfl (fun K hK => ?_) AllReady.nil
    go_simp
    go_wp2_with fail
    try refine hK _ _ ?_
    try clear hK K
    rotate_left
    all_goals clear HALL
    all_goals
      refine wpAny_ready (rs := [10]) (by kernel_rfl) (by simp) ?_
      refine AllReady.cons rfl (fun K hK => ?_) AllReady.nil
      go_simp
      go_wp2_with fail
      refine (HC.out _ hbw3).mono ?_
      rintro e w3 ⟨rfl, hb3⟩
      have hbw3 := hbw3.trans (hb3.mono hbw3.size)
      have B0 := B0.below hb3 B0.lt
      go_wp2_with fail
      refine wpAny_ready (rs := [11]) (by kernel_rfl) (by simp) ?_
      refine AllReady.cons rfl (fun K hK => ?_) AllReady.nil
      go_simp
      refine hK _ _ ?_
      clear hK K
      refine wpAny_ready (rs := [12]) (by kernel_rfl) (by simp) ?_
      refine AllReady.cons rfl (fun K hK => ?_) AllReady.nil
      go_simp
      go_wp2_with fail
      (with_reducible refine (truth_any _ _).mono ?_)
      rintro e w4 ⟨rfl, hb4⟩
      have hbw4 := hbw3.trans (hb4.mono hbw3.size)
      have B0 := B0.below hb4 B0.lt
      obtain ⟨r0, s0, r1, s1, r2, s2, r3, s3⟩ := Blk.z4 B0
      unfold vz
      go_wp2_with fail
      refine wpAny_ready (rs := [13]) (by kernel_rfl) (by simp) ?_
      refine AllReady.cons rfl (fun K hK => ?_) AllReady.nil
      go_simp
      go_wp2_with fail
      refine wpAny_done (by kernel_rfl) ?_ _
      go_wp2_with fail
      exact end4 Tryz.results53 rfl B0 hbw4 (Nat.le_refl _) (fun W5 hW5 => ⟨⟨_, rfl, by rw [HV.out]; exact VRet.truth _⟩, hW5⟩)
  · by_cases k6 : (op == 32) = true
    · skip
      go_enter Tryz.func53, Tryz.ntmps53
      go_upto_region 1 with (fail)
      rw [← hW]
      clear hW
      go_upto_region 9 with (go_at_call 79; (with_reducible refine HL.out.mono ?_); rintro e w2 ⟨rfl, hb2⟩; have hbw2 := hbw.trans (hb2.mono hbw.size); have B0 := BR.below hb2 BR.lt; obtain ⟨r0, s0, r1, s1, r2, s2, r3, s3⟩ := Blk.z4 B0; obtain ⟨v0, v1, v2, v3, -, -, -⟩ := hv.keep hbw2 hB0w (Nat.lt_of_lt_of_le hb hB); obtain ⟨u0, u1, u2, u3, -, -, -⟩ := hu.keep hbw2 hB0w (Nat.lt_of_lt_of_le hb hB))
      have hbw3 := hbw2.drew
      have B0 := B0.drew
      have HALL := Lib.hid True.intro
      refine wp_region_any (by kernel_rfl) ?_
      change wpAny _ _ _ _ _ _ _ (World.drew _)
      refine wpAny_take (i := 0) (v := ?v25) rfl (by kernel_rfl) (by kernel_rfl) (by kernel_rfl) (fun _ _ _ h => h) (Or.inl ⟨by rfl, ?y25⟩) ?r25
      case y25 =>
        intro w
        go_simp
        all_goals with_reducible rfl
      refine wpAny_take (i := 1) (v := ?v26) rfl (by kernel_rfl) (by kernel_rfl) (by kernel_rfl) (fun _ _ _ h => h) (Or.inl ⟨by rfl, ?y26⟩) ?r26
      case y26 =>
        intro w
        go_simp
        all_goals with_reducible rfl
      refine wpAny_take (i := 2) (v := ?v27) rfl (by kernel_rfl) (by kernel_rfl) (by kernel_rfl) (fun _ _ _ h => h) (Or.inl ⟨by rfl, ?y27⟩) ?r27
      case y27 =>
        intro w
        go_simp
        all_goals with_reducible rfl
      refine wpAny_take (i := 3) (v := ?v28) rfl (by kernel_rfl) (by kernel_rfl) (by kernel_rfl) (fun _ _ _ h => h) (Or.inl ⟨by rfl, ?y28⟩) ?r28
      case y28 =>
        intro w
        go_simp
        all_goals with_reducible rfl
      refine wpAny_take (i := 4) (v := ?v29) rfl (by kernel_rfl) (by kernel_rfl) (by kernel_rfl) (fun _ _ _ h => h) (Or.inl ⟨by rfl, ?y29⟩) ?r29
      case y29 =>
        intro w
        go_simp
        all_goals with_reducible rfl
      refine wpAny_take (i := 7) (v := ?v30) rfl (by kernel_rfl) (by kernel_rfl) (by kernel_rfl) (fun _ _ _ h => h) (Or.inl ⟨by rfl, ?y30⟩) ?r30
      case y30 =>
        intro w
        go_simp
        all_goals with_reducible rfl
      refine wpAny_ready (rs := [5, 8]) (by kernel_rfl) (by simp) ?_
      refine AllReady.cons rfl (fun K hK => ?_) ?_
      go_simp
      go_wp2_with fail
      try refine hK _ _ ?_
      try clear hK K
      refine wpAny_ready (rs := [6, 8]) (by kernel_rfl) (by simp) ?_
      refine AllReady.cons rfl (fun K hK => ?_) ?_
      go_simp
      go_wp2_with fail
      try refine hK _ _ ?_
      try clear hK K
      refine wpAny_ready (rs := [8]) (by kernel_rfl) (by simp) ?_
      refine AllReady.cons rfl (fun K hK => ?_) AllReady.nil
      go_simp
      go_wp2_with fail
      try refine hK _ _ ?_
      try clear hK K
      refine wpAny_ready (rs := [9]) (by kernel_rfl) (by simp) ?_
      refine AllReady.cons rfl (fun K hK => ?_) AllReady.nil
      go_simp
      go_wp2_with fail
      try refine hK _ _ ?_
      try clear hK K
      rotate_left
      refine AllReady.cons rfl (fun K hK => ?_) AllReady.nil
      go_simp
      go_wp2_with fail
      try refine hK _ _ ?_
      try clear hK K
      refine wpAny_ready (rs := [6, 9]) (by kernel_rfl) (by simp) ?_
      refine AllReady.cons rfl (fun K hK => ?_) ?_
      go_simp
      go_wp2_with fail
      try refine hK _ _ ?_
      try clear hK K
      refine wpAny_ready (rs := [9]) (by kernel_rfl) (by simp) ?_
      refine AllReady.cons rfl (fun K hK => ?_) AllReady.nil
      go_simp
      go_wp2_with fail
      try refine hK _ _ ?_
      try clear hK K
      rotate_left
      refine AllReady.cons rfl (fun K hK => ?_) AllReady.nil
      go_simp
      go_wp2_with fail
      try refine hK _ _ ?_
      try clear hK K
      refine wpAny_ready (rs := [6]) (by kernel_rfl) (by simp) ?_
      refine AllReady.cons rfl (fun K hK => ?_) AllReady.nil
      go_simp
      go_wp2_with fail
      try refine hK _ _ ?_
      try clear hK K
      rotate_left
      refine AllReady.cons rfl (fun K hK => ?_) AllReady.nil
      go_simp
      go_wp2_with fail
      try refine hK _ _ ?_
      try clear hK K
      refine wpAny_ready (rs := [5, 9]) (by kernel_rfl) (by simp) ?_
      refine AllReady.cons rfl (fun K hK => ?_) ?_
      go_simp
      go_wp2_with fail
      try refine hK _ _ ?_
      try clear hK K
      refine wpAny_ready (rs := [6, 9]) (by kernel_rfl) (by simp) ?_
      refine AllReady.cons rfl (fun K hK => ?_) ?_
      go_simp
      go_wp2_with fail
      try refine hK _ _ ?_
      try clear hK K
      refine wpAny_ready (rs := [9]) (by kernel_rfl) (by simp) ?_
      refine AllReady.cons rfl (fun K hK => ?_) AllReady.nil
      go_simp
      go_wp2_with fail
      try refine hK _ _ ?_
      try clear hK K
      rotate_left
      refine AllReady.cons rfl (fun K hK => ?_) AllReady.nil
      go_simp
      go_wp2_with fail
      try refine hK _ _ ?_
      try clear hK K
      refine wpAny_ready (rs := [6]) (by kernel_rfl) (by simp) ?_
      refine AllReady.cons rfl (fun K hK => ?_) AllReady.nil
      go_simp
      go_wp2_with fail
      try refine hK _ _ ?_
      try clear hK K
      rotate_left
      refine AllReady.cons rfl (fun K hK => ?_) AllReady.nil
      go_simp
      go_wp2_with fail
      try refine hK _ _ ?_
      try clear hK K
      refine wpAny_ready (rs := [5]) (by kernel_rfl) (by simp) ?_
      refine AllReady.cons rfl (fun K hK => ?_) AllReady.nil
      go_simp
      go_wp2_with fail
      try refine hK _ _ ?_
      try clear hK K
      refine wpAny_ready (rs := [6]) (by kernel_rfl) (by simp) ?_
      refine AllReady.cons rfl (fun K hK => ?_) AllReady.nil
      go_simp
      go_wp2_with fail
      try refine hK _ _ ?_
      try clear hK K
      rotate_left
      all_goals clear HALL
      all_goals
        refine wpAny_ready (rs := [10]) (by kernel_rfl) (by simp) ?_
        refine AllReady.cons rfl (fun K hK => ?_) AllReady.nil
        go_simp
        go_wp2_with fail
        refine (HC.out _ hbw3).mono ?_
        rintro e w3 ⟨rfl, hb3⟩
        have hbw3 := hbw3.trans (hb3.mono hbw3.size)
        have B0 := B0.below hb3 B0.lt
        go_wp2_with fail
        refine wpAny_ready (rs := [11]) (by kernel_rfl) (by simp) ?_
        refine AllReady.cons rfl (fun K hK => ?_) AllReady.nil
        go_simp
        refine hK _ _ ?_
        clear hK K
        refine wpAny_ready (rs := [12]) (by kernel_rfl) (by simp) ?_
        refine AllReady.cons rfl (fun K hK => ?_) AllReady.nil
        go_simp
        go_wp2_with fail
        (with_reducible refine (truth_any _ _).mono ?_)
        rintro e w4 ⟨rfl, hb4⟩
        have hbw4 := hbw3.trans (hb4.mono hbw3.size)
        have B0 := B0.below hb4 B0.lt
        obtain ⟨r0, s0, r1, s1, r2, s2, r3, s3⟩ := Blk.z4 B0
        unfold vz
        go_wp2_with fail
        refine wpAny_ready (rs := [13]) (by kernel_rfl) (by simp) ?_
        refine AllReady.cons rfl (fun K hK => ?_) AllReady.nil
        go_simp
        go_wp2_with fail
        refine wpAny_done (by kernel_rfl) ?_ _
        go_wp2_with fail
        exact end4 Tryz.results53 rfl B0 hbw4 (Nat.le_refl _) (fun W5 hW5 => ⟨⟨_, rfl, by rw [HV.out]; exact VRet.truth _⟩, hW5⟩)
    · have k6 : (op == 32) = false := by simpa using k6
      have k7 : (op == 33) = true := by simp at k6 ⊢; omega
      go_enter Tryz.func53, Tryz.ntmps53
      go_upto_region 1 with (fail)
      rw [← hW]
      clear hW
      go_upto_region 9 with (go_at_call 79; (with_reducible refine HL.out.mono ?_); rintro e w2 ⟨rfl, hb2⟩; have hbw2 := hbw.trans (hb2.mono hbw.size); have B0 := BR.below hb2 BR.lt; obtain ⟨r0, s0, r1, s1, r2, s2, r3, s3⟩ := Blk.z4 B0; obtain ⟨v0, v1, v2, v3, -, -, -⟩ := hv.keep hbw2 hB0w (Nat.lt_of_lt_of_le hb hB); obtain ⟨u0, u1, u2, u3, -, -, -⟩ := hu.keep hbw2 hB0w (Nat.lt_of_lt_of_le hb hB))
      have hbw3 := hbw2.drew
      have B0 := B0.drew
      have HALL := Lib.hid True.intro
      refine wp_region_any (by kernel_rfl) ?_
      change wpAny _ _ _ _ _ _ _ (World.drew _)
      refine wpAny_take (i := 0) (v := ?v31) rfl (by kernel_rfl) (by kernel_rfl) (by kernel_rfl) (fun _ _ _ h => h) (Or.inl ⟨by rfl, ?y31⟩) ?r31
      case y31 =>
        intro w
        go_simp
        all_goals with_reducible rfl
      refine wpAny_take (i := 1) (v := ?v32) rfl (by kernel_rfl) (by kernel_rfl) (by kernel_rfl) (fun _ _ _ h => h) (Or.inl ⟨by rfl, ?y32⟩) ?r32
      case y32 =>
        intro w
        go_simp
        all_goals with_reducible rfl
      refine wpAny_take (i := 2) (v := ?v33) rfl (by kernel_rfl) (by kernel_rfl) (by kernel_rfl) (fun _ _ _ h => h) (Or.inl ⟨by rfl, ?y33⟩) ?r33
      case y33 =>
        intro w
        go_simp
        all_goals with_reducible rfl
      refine wpAny_take (i := 3) (v := ?v34) rfl (by kernel_rfl) (by kernel_rfl) (by kernel_rfl) (fun _ _ _ h => h) (Or.inl ⟨by rfl, ?y34⟩) ?r34
      case y34 =>
        intro w
        go_simp
        all_goals with_reducible rfl
      refine wpAny_take (i := 4) (v := ?v35) rfl (by kernel_rfl) (by kernel_rfl) (by kernel_rfl) (fun _ _ _ h => h) (Or.inl ⟨by rfl, ?y35⟩) ?r35
      case y35 =>
        intro w
        go_simp
        all_goals with_reducible rfl
      refine wpAny_take (i := 7) (v := ?v36) rfl (by kernel_rfl) (by kernel_rfl) (by kernel_rfl) (fun _ _ _ h => h) (Or.inl ⟨by rfl, ?y36⟩) ?r36
      case y36 =>
        intro w
        go_simp
        all_goals with_reducible rfl
      refine wpAny_ready (rs := [5, 8]) (by kernel_rfl) (by simp) ?_
      refine AllReady.cons rfl (fun K hK => ?_) ?_
      go_simp
      go_wp2_with fail
      try refine hK _ _ ?_
      try clear hK K
      refine wpAny_ready (rs := [6, 8]) (by kernel_rfl) (by simp) ?_
      refine AllReady.cons rfl (fun K hK => ?_) ?_
      go_simp
      go_wp2_with fail
      try refine hK _ _ ?_
      try clear hK K
      refine wpAny_ready (rs := [8]) (by kernel_rfl) (by simp) ?_
      refine AllReady.cons rfl (fun K hK => ?_) AllReady.nil
      go_simp
      go_wp2_with fail
      try refine hK _ _ ?_
      try clear hK K
      refine wpAny_ready (rs := [9]) (by kernel_rfl) (by simp) ?_
      refine AllReady.cons rfl (fun K hK => ?_) AllReady.nil
      go_simp
      go_wp2_with fail
      try refine hK _ _ ?_
      try clear hK K
      rotate_left
      refine AllReady.cons rfl (fun K hK => ?_) AllReady.nil
      go_simp
      go_wp2_with fail
      try refine hK _ _ ?_
      try clear hK K
      refine wpAny_ready (rs := [6, 9]) (by kernel_rfl) (by simp) ?_
      refine AllReady.cons rfl (fun K hK => ?_) ?_
      go_simp
      go_wp2_with fail
      try refine hK _ _ ?_
      try clear hK K
      refine wpAny_ready (rs := [9]) (by kernel_rfl) (by simp) ?_
      refine AllReady.cons rfl (fun K hK => ?_) AllReady.nil
      go_simp
      go_wp2_with fail
      try refine hK _ _ ?_
      try clear hK K
      rotate_left
      refine AllReady.cons rfl (fun K hK => ?_) AllReady.nil
      go_simp
      go_wp2_with fail
      try refine hK _ _ ?_
      try clear hK K
      refine wpAny_ready (rs := [6]) (by kernel_rfl) (by simp) ?_
      refine AllReady.cons rfl (fun K hK => ?_) AllReady.nil
      go_simp
      go_wp2_with fail
      try refine hK _ _ ?_
      try clear hK K
      rotate_left
      refine AllReady.cons rfl (fun K hK => ?_) AllReady.nil
      go_simp
      go_wp2_with fail
      try refine hK _ _ ?_
      try clear hK K
      refine wpAny_ready (rs := [5, 9]) (by kernel_rfl) (by simp) ?_
      refine AllReady.cons rfl (fun K hK => ?_) ?_
      go_simp
      go_wp2_with fail
      try refine hK _ _ ?_
      try clear hK K
      refine wpAny_ready (rs := [6, 9]) (by kernel_rfl) (by simp) ?_
      refine AllReady.cons rfl (fun K hK => ?_) ?_
      go_simp
      go_wp2_with fail
      try refine hK _ _ ?_
      try clear hK K
      refine wpAny_ready (rs := [9]) (by kernel_rfl) (by simp) ?_
      refine AllReady.cons rfl (fun K hK => ?_) AllReady.nil
      go_simp
      go_wp2_with fail
      try refine hK _ _ ?_
      try clear hK K
      rotate_left
      refine AllReady.cons rfl (fun K hK => ?_) AllReady.nil
      go_simp
      go_wp2_with fail
      try refine hK _ _ ?_
      try clear hK K
      refine wpAny_ready (rs := [6]) (by kernel_rfl) (by simp) ?_
      refine AllReady.cons rfl (fun K hK => ?_) AllReady.nil
      go_simp
      go_wp2_with fail
      try refine hK _ _ ?_
      try clear hK K
      rotate_left
      refine AllReady.cons rfl (fun K hK => ?_) AllReady.nil
      go_simp
      go_wp2_with fail
      try refine hK _ _ ?_
      try clear hK K
      refine wpAny_ready (rs := [5]) (by kernel_rfl) (by simp) ?_
      refine AllReady.cons rfl (fun K hK => ?_) AllReady.nil
      go_simp
      go_wp2_with fail
      try refine hK _ _ ?_
      try clear hK K
      refine wpAny_ready (rs := [6]) (by kernel_rfl) (by simp) ?_
      refine AllReady.cons rfl (fun K hK => ?_) AllReady.nil
      go_simp
      go_wp2_with fail
      try refine hK _ _ ?_
      try clear hK K
      rotate_left
      all_goals clear HALL
      all_goals
        refine wpAny_ready (rs := [10]) (by kernel_rfl) (by simp) ?_
        refine AllReady.cons rfl (fun K hK => ?_) AllReady.nil
        go_simp
        go_wp2_with fail
        refine (HC.out _ hbw3).mono ?_
        rintro e w3 ⟨rfl, hb3⟩
        have hbw3 := hbw3.trans (hb3.mono hbw3.size)
        have B0 := B0.below hb3 B0.lt
        go_wp2_with fail
        refine wpAny_ready (rs := [11]) (by kernel_rfl) (by simp) ?_
        refine AllReady.cons rfl (fun K hK => ?_) AllReady.nil
        go_simp
        refine hK _ _ ?_
        clear hK K
        refine wpAny_ready (rs := [12]) (by kernel_rfl) (by simp) ?_
        refine AllReady.cons rfl (fun K hK => ?_) AllReady.nil
        go_simp
        go_wp2_with fail
        (with_reducible refine (truth_any _ _).mono ?_)
        rintro e w4 ⟨rfl, hb4⟩
        have hbw4 := hbw3.trans (hb4.mono hbw3.size)
        have B0 := B0.below hb4 B0.lt
        obtain ⟨r0, s0, r1, s1, r2, s2, r3, s3⟩ := Blk.z4 B0
        unfold vz
        go_wp2_with fail
        refine wpAny_ready (rs := [13]) (by kernel_rfl) (by simp) ?_
        refine AllReady.cons rfl (fun K hK => ?_) AllReady.nil
        go_simp
        go_wp2_with fail
        refine wpAny_done (by kernel_rfl) ?_ _
        go_wp2_with fail
        exact end4 Tryz.results53 rfl B0 hbw4 (Nat.le_refl _) (fun W5 hW5 => ⟨⟨_, rfl, by rw [HV.out]; exact VRet.truth _⟩, hW5⟩)
end Go.Proofs.YtpanbeoelbhhgaaGreatDoor
namespace Go.Proofs.YtpanbeoelbhhgaaGreatDoor
open Go.RowKit
theorem apply_any (op : Int) (vs : List Val) (A : Option Addr) (c B0 B : Nat) (w : World) (hA : ArgsAt B0 w B A vs) (hB : B ≤ w.heap.size) (hB0 : B0 ≤ B) (hm : Mx w) (hok : ArgOk op vs) (h1 : 1 ≤ op) (h2 : op ≤ 39) (h14 : ¬ (12 ≤ op ∧ op ≤ 14)) (h26 : op ≠ 26) (h27 : op ≠ 27) :
    Calls Tryz.prog 53 #[.int .i64 op, .slice A vs.length c] w fun e w' => (∃ x, e = .returned x ∧ VRet w' B0 (applyV op vs) x) ∧ Below w.heap.size w w' := by
  by_cases c1 : op = 1
  · exact apply_1 op vs A c B0 B w hA hB hB0 hm hok c1
  by_cases c2 : op = 2
  · exact apply_2 op vs A c B0 B w hA hB hB0 hm hok c2
  by_cases c3 : op = 3
  · exact apply_3 op vs A c B0 B w hA hB hB0 hm hok c3
  cases hl : vs.any missV with
  | true =>
    by_cases c4 : (4 ≤ op ∧ op ≤ 11) ∨ op = 32 ∨ op = 33
    · exact apply_cmp0 op vs A c B0 B w hA hB hB0 hm hok c4 hl
    · exact apply_lost op vs A c B0 B w hA hB hB0 hm hok c1 c2 c3 c4 hl
  | false =>
    by_cases c4 : (4 ≤ op ∧ op ≤ 11) ∨ op = 32 ∨ op = 33
    · exact apply_cmp1 op vs A c B0 B w hA hB hB0 hm hok c4 hl
    by_cases c5 : op = 24 ∨ op = 25
    · exact apply_24 op vs A c B0 B w hA hB hB0 hm hok c5 hl
    by_cases c6 : 15 ≤ op ∧ op ≤ 19
    · exact apply_arith op vs A c B0 B w hA hB hB0 hm hok c6 hl
    by_cases c7 : 34 ≤ op ∧ op ≤ 36
    · exact apply_34 op vs A c B0 B w hA hB hB0 hm hok c7 hl
    by_cases c8 : op = 37 ∨ op = 38
    · exact apply_37 op vs A c B0 B w hA hB hB0 hm hok c8 hl
    by_cases c9 : op = 39
    · exact apply_39 op vs A c B0 B w hA hB hB0 hm hok c9 hl
    by_cases d1 : op = 30
    · exact apply_30 op vs A c B0 B w hA hB hB0 hm hok d1 hl
    by_cases d2 : op = 31
    · exact apply_31 op vs A c B0 B w hA hB hB0 hm hok d2 hl
    exact apply_single op vs A c B0 B w hA hB hB0 hm hok (by omega) hl
end Go.Proofs.YtpanbeoelbhhgaaGreatDoor
