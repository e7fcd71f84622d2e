/- The walks of opType for some operations. · opType, for every operation with as many arguments as it has. · The kind of an expression in a place. The plain mathematics. · What a world holds; typed for constants, rows and answers. · typed for answers. -/
import Derived.Test.YtpanbeoelbhhgaaGreatDoorY12
import Derived.Test.YtpanbeoelbhhgaaGreatDoorY13
import Derived.Test.YtpanbeoelbhhgaaGreatDoorY9
namespace Go.Proofs.YtpanbeoelbhhgaaGreatDoor
open Go.RowKit
attribute [local go_sem ↓] Go.wp_at_zero Go.wp_at_succ
set_option maxHeartbeats 2000000 in
set_option maxRecDepth 100000 in
theorem opType_4 (a b : Int) (A : Option Addr) (c B : Nat) (w : World) (hx : Reads w B 1 A 2 (numV .i64 [a, b])) (hB : B ≤ w.heap.size) :
    Calls Tryz.prog 44 #[.int .i64 4, .slice A 2 c] w fun e w' => e = .returned (.tuple #[.int .i64 (opT 4 [a, b]).1, .int .i64 (opT 4 [a, b]).2]) ∧ Below w.heap.size w w' := by
  obtain ⟨n, hn⟩ : ∃ n, allB [a, b] 2 = n := ⟨_, rfl⟩
  obtain ⟨o, ho⟩ : ∃ o, allB [a, b] 6 = o := ⟨_, rfl⟩
  have HN := Lib.hid hn
  have HO := Lib.hid ho
  have HAO := Lib.hid (fun k w' (hb : Below w.heap.size w w') => allOf_any [a, b] A c B k w' (by show 2 ≤ _; decide) (hx.below (hb.mono hB)) (Nat.le_trans hB hb.size))
  obtain ⟨bk, of, rfl, hbk, hcell⟩ := hx.plain (by decide)
  have hc0 : w.cell? ⟨bk, of, none⟩ = some (.int .i64 a) := hcell 0 _ rfl
  have hc1 : w.cell? ⟨bk, of + 1, none⟩ = some (.int .i64 b) := hcell 1 _ rfl
  have hbw0 : bk < w.heap.size := by omega
  have HC := Lib.hid (And.intro hc0 hc1)
  clear hcell hc0 hc1
  clear hn ho hx
  go_enter Tryz.func44, Tryz.ntmps44
  go_wp2_with fail
  refine (HAO.out 2 w (Below.refl _ _)).mono ?_
  rw [HN.out]
  rintro e w1 ⟨rfl, hbw⟩
  cases n
  · go_wp2_with fail
    refine (HAO.out 6 w1 hbw).mono ?_
    rw [HO.out]
    rintro e w2 ⟨rfl, hb2⟩
    have hbw := hbw.trans (hb2.mono hbw.size)
    clear hb2
    have c0 : w2.cell? ⟨bk, of, none⟩ = some (.int .i64 a) := by rw [hbw.cell (by exact hbw0)]; exact HC.out.1
    have c1 : w2.cell? ⟨bk, of + 1, none⟩ = some (.int .i64 b) := by rw [hbw.cell (by exact hbw0)]; exact HC.out.2
    have r0 := Later.cell c0
    have r1 := Later.cell c1
    have K1 := Lib.hid (fun ok k => Later.call (fits_later ok k w2))
    clear c0 c1
    go_upto_region 10 with (fail)
    refine wp_region_later (by kernel_rfl) (by kernel_rfl) ?_
    repeat (go_big_quiet_step (with_reducible exact K1.out _ _ _))
    refine wpQuiet_nil ?_
    intro W9 hw'
    have hb9 := later_h hw'
    clear hw'
    have hbw := hbw.trans (hb9.mono hbw.size)
    clear hb9 r0 r1
    go_wp2
    go_ret2
    exact ⟨ret_val (by have h1 := HN.out; have h2 := HO.out; simp_all [opT, kAt]), hbw⟩
  · have c0 : w1.cell? ⟨bk, of, none⟩ = some (.int .i64 a) := by rw [hbw.cell (by exact hbw0)]; exact HC.out.1
    have c1 : w1.cell? ⟨bk, of + 1, none⟩ = some (.int .i64 b) := by rw [hbw.cell (by exact hbw0)]; exact HC.out.2
    have r0 := Later.cell c0
    have r1 := Later.cell c1
    have K1 := Lib.hid (fun ok k => Later.call (fits_later ok k w1))
    clear c0 c1
    go_upto_region 10 with (fail)
    refine wp_region_later (by kernel_rfl) (by kernel_rfl) ?_
    repeat (go_big_quiet_step (with_reducible exact K1.out _ _ _))
    refine wpQuiet_nil ?_
    intro W9 hw'
    have hb9 := later_h hw'
    clear hw'
    have hbw := hbw.trans (hb9.mono hbw.size)
    clear hb9 r0 r1
    go_wp2
    go_ret2
    exact ⟨ret_val (by have h1 := HN.out; have h2 := HO.out; simp_all [opT, kAt]), hbw⟩
set_option maxHeartbeats 2000000 in
set_option maxRecDepth 100000 in
theorem opType_5 (a b : Int) (A : Option Addr) (c B : Nat) (w : World) (hx : Reads w B 1 A 2 (numV .i64 [a, b])) (hB : B ≤ w.heap.size) :
    Calls Tryz.prog 44 #[.int .i64 5, .slice A 2 c] w fun e w' => e = .returned (.tuple #[.int .i64 (opT 5 [a, b]).1, .int .i64 (opT 5 [a, b]).2]) ∧ Below w.heap.size w w' := by
  obtain ⟨n, hn⟩ : ∃ n, allB [a, b] 2 = n := ⟨_, rfl⟩
  obtain ⟨o, ho⟩ : ∃ o, allB [a, b] 6 = o := ⟨_, rfl⟩
  have HN := Lib.hid hn
  have HO := Lib.hid ho
  have HAO := Lib.hid (fun k w' (hb : Below w.heap.size w w') => allOf_any [a, b] A c B k w' (by show 2 ≤ _; decide) (hx.below (hb.mono hB)) (Nat.le_trans hB hb.size))
  obtain ⟨bk, of, rfl, hbk, hcell⟩ := hx.plain (by decide)
  have hc0 : w.cell? ⟨bk, of, none⟩ = some (.int .i64 a) := hcell 0 _ rfl
  have hc1 : w.cell? ⟨bk, of + 1, none⟩ = some (.int .i64 b) := hcell 1 _ rfl
  have hbw0 : bk < w.heap.size := by omega
  have HC := Lib.hid (And.intro hc0 hc1)
  clear hcell hc0 hc1
  clear hn ho hx
  go_enter Tryz.func44, Tryz.ntmps44
  go_wp2_with fail
  refine (HAO.out 2 w (Below.refl _ _)).mono ?_
  rw [HN.out]
  rintro e w1 ⟨rfl, hbw⟩
  cases n
  · go_wp2_with fail
    refine (HAO.out 6 w1 hbw).mono ?_
    rw [HO.out]
    rintro e w2 ⟨rfl, hb2⟩
    have hbw := hbw.trans (hb2.mono hbw.size)
    clear hb2
    have c0 : w2.cell? ⟨bk, of, none⟩ = some (.int .i64 a) := by rw [hbw.cell (by exact hbw0)]; exact HC.out.1
    have c1 : w2.cell? ⟨bk, of + 1, none⟩ = some (.int .i64 b) := by rw [hbw.cell (by exact hbw0)]; exact HC.out.2
    have r0 := Later.cell c0
    have r1 := Later.cell c1
    have K1 := Lib.hid (fun ok k => Later.call (fits_later ok k w2))
    clear c0 c1
    go_upto_region 10 with (fail)
    refine wp_region_later (by kernel_rfl) (by kernel_rfl) ?_
    repeat (go_big_quiet_step (with_reducible exact K1.out _ _ _))
    refine wpQuiet_nil ?_
    intro W9 hw'
    have hb9 := later_h hw'
    clear hw'
    have hbw := hbw.trans (hb9.mono hbw.size)
    clear hb9 r0 r1
    go_wp2
    go_ret2
    exact ⟨ret_val (by have h1 := HN.out; have h2 := HO.out; simp_all [opT, kAt]), hbw⟩
  · have c0 : w1.cell? ⟨bk, of, none⟩ = some (.int .i64 a) := by rw [hbw.cell (by exact hbw0)]; exact HC.out.1
    have c1 : w1.cell? ⟨bk, of + 1, none⟩ = some (.int .i64 b) := by rw [hbw.cell (by exact hbw0)]; exact HC.out.2
    have r0 := Later.cell c0
    have r1 := Later.cell c1
    have K1 := Lib.hid (fun ok k => Later.call (fits_later ok k w1))
    clear c0 c1
    go_upto_region 10 with (fail)
    refine wp_region_later (by kernel_rfl) (by kernel_rfl) ?_
    repeat (go_big_quiet_step (with_reducible exact K1.out _ _ _))
    refine wpQuiet_nil ?_
    intro W9 hw'
    have hb9 := later_h hw'
    clear hw'
    have hbw := hbw.trans (hb9.mono hbw.size)
    clear hb9 r0 r1
    go_wp2
    go_ret2
    exact ⟨ret_val (by have h1 := HN.out; have h2 := HO.out; simp_all [opT, kAt]), hbw⟩
set_option maxHeartbeats 2000000 in
set_option maxRecDepth 100000 in
theorem opType_10 (a b : Int) (A : Option Addr) (c B : Nat) (w : World) (hx : Reads w B 1 A 2 (numV .i64 [a, b])) (hB : B ≤ w.heap.size) :
    Calls Tryz.prog 44 #[.int .i64 10, .slice A 2 c] w fun e w' => e = .returned (.tuple #[.int .i64 (opT 10 [a, b]).1, .int .i64 (opT 10 [a, b]).2]) ∧ Below w.heap.size w w' := by
  obtain ⟨n, hn⟩ : ∃ n, allB [a, b] 2 = n := ⟨_, rfl⟩
  obtain ⟨o, ho⟩ : ∃ o, allB [a, b] 6 = o := ⟨_, rfl⟩
  have HN := Lib.hid hn
  have HO := Lib.hid ho
  have HAO := Lib.hid (fun k w' (hb : Below w.heap.size w w') => allOf_any [a, b] A c B k w' (by show 2 ≤ _; decide) (hx.below (hb.mono hB)) (Nat.le_trans hB hb.size))
  obtain ⟨bk, of, rfl, hbk, hcell⟩ := hx.plain (by decide)
  have hc0 : w.cell? ⟨bk, of, none⟩ = some (.int .i64 a) := hcell 0 _ rfl
  have hc1 : w.cell? ⟨bk, of + 1, none⟩ = some (.int .i64 b) := hcell 1 _ rfl
  have hbw0 : bk < w.heap.size := by omega
  have HC := Lib.hid (And.intro hc0 hc1)
  clear hcell hc0 hc1
  clear hn ho hx
  go_enter Tryz.func44, Tryz.ntmps44
  go_wp2_with fail
  refine (HAO.out 2 w (Below.refl _ _)).mono ?_
  rw [HN.out]
  rintro e w1 ⟨rfl, hbw⟩
  cases n
  · go_wp2_with fail
    refine (HAO.out 6 w1 hbw).mono ?_
    rw [HO.out]
    rintro e w2 ⟨rfl, hb2⟩
    have hbw := hbw.trans (hb2.mono hbw.size)
    clear hb2
    have c0 : w2.cell? ⟨bk, of, none⟩ = some (.int .i64 a) := by rw [hbw.cell (by exact hbw0)]; exact HC.out.1
    have c1 : w2.cell? ⟨bk, of + 1, none⟩ = some (.int .i64 b) := by rw [hbw.cell (by exact hbw0)]; exact HC.out.2
    rcases h7 : (a == 4) with _ | _ <;> rcases h8 : (b == 5) with _ | _
    all_goals
      have HA := Lib.hid (And.intro h7 h8)
      go_wp2_with (first | (go_at_call 74; refine (fits_any _ _ _).mono ?_; rintro e9 w9 ⟨rfl, rfl⟩))
      go_ret2
      exact ⟨ret_val (by have h1 := HN.out; have h2 := HO.out; have h3 := HA.out; rw [show opT 10 [a, b] = fitT ((a == 4) && (b == 5)) 7 from rfl, h3.1, h3.2]; rfl), hbw⟩
  · have c0 : w1.cell? ⟨bk, of, none⟩ = some (.int .i64 a) := by rw [hbw.cell (by exact hbw0)]; exact HC.out.1
    have c1 : w1.cell? ⟨bk, of + 1, none⟩ = some (.int .i64 b) := by rw [hbw.cell (by exact hbw0)]; exact HC.out.2
    rcases h7 : (a == 4) with _ | _ <;> rcases h8 : (b == 5) with _ | _
    all_goals
      have HA := Lib.hid (And.intro h7 h8)
      go_wp2_with (first | (go_at_call 74; refine (fits_any _ _ _).mono ?_; rintro e9 w9 ⟨rfl, rfl⟩))
      go_ret2
      exact ⟨ret_val (by have h1 := HN.out; have h2 := HO.out; have h3 := HA.out; rw [show opT 10 [a, b] = fitT ((a == 4) && (b == 5)) 7 from rfl, h3.1, h3.2]; rfl), hbw⟩
set_option maxHeartbeats 2000000 in
set_option maxRecDepth 100000 in
theorem opType_11 (a b : Int) (A : Option Addr) (c B : Nat) (w : World) (hx : Reads w B 1 A 2 (numV .i64 [a, b])) (hB : B ≤ w.heap.size) :
    Calls Tryz.prog 44 #[.int .i64 11, .slice A 2 c] w fun e w' => e = .returned (.tuple #[.int .i64 (opT 11 [a, b]).1, .int .i64 (opT 11 [a, b]).2]) ∧ Below w.heap.size w w' := by
  obtain ⟨n, hn⟩ : ∃ n, allB [a, b] 2 = n := ⟨_, rfl⟩
  obtain ⟨o, ho⟩ : ∃ o, allB [a, b] 6 = o := ⟨_, rfl⟩
  have HN := Lib.hid hn
  have HO := Lib.hid ho
  have HAO := Lib.hid (fun k w' (hb : Below w.heap.size w w') => allOf_any [a, b] A c B k w' (by show 2 ≤ _; decide) (hx.below (hb.mono hB)) (Nat.le_trans hB hb.size))
  obtain ⟨bk, of, rfl, hbk, hcell⟩ := hx.plain (by decide)
  have hc0 : w.cell? ⟨bk, of, none⟩ = some (.int .i64 a) := hcell 0 _ rfl
  have hc1 : w.cell? ⟨bk, of + 1, none⟩ = some (.int .i64 b) := hcell 1 _ rfl
  have hbw0 : bk < w.heap.size := by omega
  have HC := Lib.hid (And.intro hc0 hc1)
  clear hcell hc0 hc1
  clear hn ho hx
  go_enter Tryz.func44, Tryz.ntmps44
  go_wp2_with fail
  refine (HAO.out 2 w (Below.refl _ _)).mono ?_
  rw [HN.out]
  rintro e w1 ⟨rfl, hbw⟩
  cases n
  · go_wp2_with fail
    refine (HAO.out 6 w1 hbw).mono ?_
    rw [HO.out]
    rintro e w2 ⟨rfl, hb2⟩
    have hbw := hbw.trans (hb2.mono hbw.size)
    clear hb2
    have c0 : w2.cell? ⟨bk, of, none⟩ = some (.int .i64 a) := by rw [hbw.cell (by exact hbw0)]; exact HC.out.1
    have c1 : w2.cell? ⟨bk, of + 1, none⟩ = some (.int .i64 b) := by rw [hbw.cell (by exact hbw0)]; exact HC.out.2
    rcases h7 : (a == 5) with _ | _ <;> rcases h8 : (b == 4) with _ | _
    all_goals
      have HA := Lib.hid (And.intro h7 h8)
      go_wp2_with (first | (go_at_call 74; refine (fits_any _ _ _).mono ?_; rintro e9 w9 ⟨rfl, rfl⟩))
      go_ret2
      exact ⟨ret_val (by have h1 := HN.out; have h2 := HO.out; have h3 := HA.out; rw [show opT 11 [a, b] = fitT ((a == 5) && (b == 4)) 7 from rfl, h3.1, h3.2]; rfl), hbw⟩
  · have c0 : w1.cell? ⟨bk, of, none⟩ = some (.int .i64 a) := by rw [hbw.cell (by exact hbw0)]; exact HC.out.1
    have c1 : w1.cell? ⟨bk, of + 1, none⟩ = some (.int .i64 b) := by rw [hbw.cell (by exact hbw0)]; exact HC.out.2
    rcases h7 : (a == 5) with _ | _ <;> rcases h8 : (b == 4) with _ | _
    all_goals
      have HA := Lib.hid (And.intro h7 h8)
      go_wp2_with (first | (go_at_call 74; refine (fits_any _ _ _).mono ?_; rintro e9 w9 ⟨rfl, rfl⟩))
      go_ret2
      exact ⟨ret_val (by have h1 := HN.out; have h2 := HO.out; have h3 := HA.out; rw [show opT 11 [a, b] = fitT ((a == 5) && (b == 4)) 7 from rfl, h3.1, h3.2]; rfl), hbw⟩
set_option maxHeartbeats 2000000 in
set_option maxRecDepth 100000 in
theorem opType_26 (a b d : Int) (A : Option Addr) (c B : Nat) (w : World) (hx : Reads w B 1 A 3 (numV .i64 [a, b, d])) (hB : B ≤ w.heap.size) :
    Calls Tryz.prog 44 #[.int .i64 26, .slice A 3 c] w fun e w' => e = .returned (.tuple #[.int .i64 (opT 26 [a, b, d]).1, .int .i64 (opT 26 [a, b, d]).2]) ∧ Below w.heap.size w w' := by
  obtain ⟨n, hn⟩ : ∃ n, allB [a, b, d] 2 = n := ⟨_, rfl⟩
  obtain ⟨o, ho⟩ : ∃ o, allB [a, b, d] 6 = o := ⟨_, rfl⟩
  have HN := Lib.hid hn
  have HO := Lib.hid ho
  have HAO := Lib.hid (fun k w' (hb : Below w.heap.size w w') => allOf_any [a, b, d] A c B k w' (by show 3 ≤ _; decide) (hx.below (hb.mono hB)) (Nat.le_trans hB hb.size))
  obtain ⟨bk, of, rfl, hbk, hcell⟩ := hx.plain (by decide)
  have hc0 : w.cell? ⟨bk, of, none⟩ = some (.int .i64 a) := hcell 0 _ rfl
  have hc1 : w.cell? ⟨bk, of + 1, none⟩ = some (.int .i64 b) := hcell 1 _ rfl
  have hc2 : w.cell? ⟨bk, of + 2, none⟩ = some (.int .i64 d) := hcell 2 _ rfl
  have hbw0 : bk < w.heap.size := by omega
  have HC := Lib.hid (And.intro hc0 (And.intro hc1 hc2))
  clear hcell hc0 hc1 hc2
  clear hn ho hx
  go_enter Tryz.func44, Tryz.ntmps44
  go_wp2_with fail
  refine (HAO.out 2 w (Below.refl _ _)).mono ?_
  rw [HN.out]
  rintro e w1 ⟨rfl, hbw⟩
  cases n
  · go_wp2_with fail
    refine (HAO.out 6 w1 hbw).mono ?_
    rw [HO.out]
    rintro e w2 ⟨rfl, hb2⟩
    have hbw := hbw.trans (hb2.mono hbw.size)
    clear hb2
    have c0 : w2.cell? ⟨bk, of, none⟩ = some (.int .i64 a) := by rw [hbw.cell (by exact hbw0)]; exact HC.out.1
    have c1 : w2.cell? ⟨bk, of + 1, none⟩ = some (.int .i64 b) := by rw [hbw.cell (by exact hbw0)]; exact HC.out.2.1
    have c2 : w2.cell? ⟨bk, of + 2, none⟩ = some (.int .i64 d) := by rw [hbw.cell (by exact hbw0)]; exact HC.out.2.2
    rcases h7 : (a == 7) with _ | _
    · have HA := Lib.hid h7
      have r0 := Later.cell c0
      have r1 := Later.cell c1
      have r2 := Later.cell c2
      have K1 := Lib.hid (fun ok k => Later.call (fits_later ok k w2))
      clear c0 c1 c2
      go_upto_region 29 with (fail)
      refine wp_region_later (by kernel_rfl) (by kernel_rfl) ?_
      repeat (go_big_quiet_step (with_reducible exact K1.out _ _ _))
      refine wpQuiet_nil ?_
      intro W9 hw'
      have hb9 := later_h hw'
      clear hw'
      have hbw := hbw.trans (hb9.mono hbw.size)
      clear hb9 r0 r1 r2
      go_wp2
      go_ret2
      exact ⟨ret_val (by have h1 := HN.out; have h2 := HO.out; have h3 := HA.out; rw [show opT 26 [a, b, d] = fitT ((a == 7) && (b == d)) b from rfl, h3]; rfl), hbw⟩
    · have HA := Lib.hid h7
      have r0 := Later.cell c0
      have r1 := Later.cell c1
      have r2 := Later.cell c2
      have K1 := Lib.hid (fun ok k => Later.call (fits_later ok k w2))
      clear c0 c1 c2
      go_upto_region 29 with (fail)
      refine wp_region_later (by kernel_rfl) (by kernel_rfl) ?_
      repeat (go_big_quiet_step (with_reducible exact K1.out _ _ _))
      refine wpQuiet_nil ?_
      intro W9 hw'
      have hb9 := later_h hw'
      clear hw'
      have hbw := hbw.trans (hb9.mono hbw.size)
      clear hb9 r0 r1 r2
      go_wp2
      go_ret2
      exact ⟨ret_val (by have h1 := HN.out; have h2 := HO.out; have h3 := HA.out; rw [show opT 26 [a, b, d] = fitT ((a == 7) && (b == d)) b from rfl, h3]; rfl), hbw⟩
  · have c0 : w1.cell? ⟨bk, of, none⟩ = some (.int .i64 a) := by rw [hbw.cell (by exact hbw0)]; exact HC.out.1
    have c1 : w1.cell? ⟨bk, of + 1, none⟩ = some (.int .i64 b) := by rw [hbw.cell (by exact hbw0)]; exact HC.out.2.1
    have c2 : w1.cell? ⟨bk, of + 2, none⟩ = some (.int .i64 d) := by rw [hbw.cell (by exact hbw0)]; exact HC.out.2.2
    rcases h7 : (a == 7) with _ | _
    · have HA := Lib.hid h7
      have r0 := Later.cell c0
      have r1 := Later.cell c1
      have r2 := Later.cell c2
      have K1 := Lib.hid (fun ok k => Later.call (fits_later ok k w1))
      clear c0 c1 c2
      go_upto_region 29 with (fail)
      refine wp_region_later (by kernel_rfl) (by kernel_rfl) ?_
      repeat (go_big_quiet_step (with_reducible exact K1.out _ _ _))
      refine wpQuiet_nil ?_
      intro W9 hw'
      have hb9 := later_h hw'
      clear hw'
      have hbw := hbw.trans (hb9.mono hbw.size)
      clear hb9 r0 r1 r2
      go_wp2
      go_ret2
      exact ⟨ret_val (by have h1 := HN.out; have h2 := HO.out; have h3 := HA.out; rw [show opT 26 [a, b, d] = fitT ((a == 7) && (b == d)) b from rfl, h3]; rfl), hbw⟩
    · have HA := Lib.hid h7
      have r0 := Later.cell c0
      have r1 := Later.cell c1
      have r2 := Later.cell c2
      have K1 := Lib.hid (fun ok k => Later.call (fits_later ok k w1))
      clear c0 c1 c2
      go_upto_region 29 with (fail)
      refine wp_region_later (by kernel_rfl) (by kernel_rfl) ?_
      repeat (go_big_quiet_step (with_reducible exact K1.out _ _ _))
      refine wpQuiet_nil ?_
      intro W9 hw'
      have hb9 := later_h hw'
      clear hw'
      have hbw := hbw.trans (hb9.mono hbw.size)
      clear hb9 r0 r1 r2
      go_wp2
      go_ret2
      exact ⟨ret_val (by have h1 := HN.out; have h2 := HO.out; have h3 := HA.out; rw [show opT 26 [a, b, d] = fitT ((a == 7) && (b == d)) b from rfl, h3]; rfl), hbw⟩
set_option maxHeartbeats 2000000 in
set_option maxRecDepth 100000 in
theorem opType_27 (a b : Int) (A : Option Addr) (c B : Nat) (w : World) (hx : Reads w B 1 A 2 (numV .i64 [a, b])) (hB : B ≤ w.heap.size) :
    Calls Tryz.prog 44 #[.int .i64 27, .slice A 2 c] w fun e w' => e = .returned (.tuple #[.int .i64 (opT 27 [a, b]).1, .int .i64 (opT 27 [a, b]).2]) ∧ Below w.heap.size w w' := by
  obtain ⟨n, hn⟩ : ∃ n, allB [a, b] 2 = n := ⟨_, rfl⟩
  obtain ⟨o, ho⟩ : ∃ o, allB [a, b] 6 = o := ⟨_, rfl⟩
  have HN := Lib.hid hn
  have HO := Lib.hid ho
  have HAO := Lib.hid (fun k w' (hb : Below w.heap.size w w') => allOf_any [a, b] A c B k w' (by show 2 ≤ _; decide) (hx.below (hb.mono hB)) (Nat.le_trans hB hb.size))
  obtain ⟨bk, of, rfl, hbk, hcell⟩ := hx.plain (by decide)
  have hc0 : w.cell? ⟨bk, of, none⟩ = some (.int .i64 a) := hcell 0 _ rfl
  have hc1 : w.cell? ⟨bk, of + 1, none⟩ = some (.int .i64 b) := hcell 1 _ rfl
  have hbw0 : bk < w.heap.size := by omega
  have HC := Lib.hid (And.intro hc0 hc1)
  clear hcell hc0 hc1
  clear hn ho hx
  go_enter Tryz.func44, Tryz.ntmps44
  go_wp2_with fail
  refine (HAO.out 2 w (Below.refl _ _)).mono ?_
  rw [HN.out]
  rintro e w1 ⟨rfl, hbw⟩
  cases n
  · go_wp2_with fail
    refine (HAO.out 6 w1 hbw).mono ?_
    rw [HO.out]
    rintro e w2 ⟨rfl, hb2⟩
    have hbw := hbw.trans (hb2.mono hbw.size)
    clear hb2
    have c0 : w2.cell? ⟨bk, of, none⟩ = some (.int .i64 a) := by rw [hbw.cell (by exact hbw0)]; exact HC.out.1
    have c1 : w2.cell? ⟨bk, of + 1, none⟩ = some (.int .i64 b) := by rw [hbw.cell (by exact hbw0)]; exact HC.out.2
    have r0 := Later.cell c0
    have r1 := Later.cell c1
    have K1 := Lib.hid (fun ok k => Later.call (fits_later ok k w2))
    clear c0 c1
    go_upto_region 31 with (fail)
    refine wp_region_later (by kernel_rfl) (by kernel_rfl) ?_
    repeat (go_big_quiet_step (with_reducible exact K1.out _ _ _))
    refine wpQuiet_nil ?_
    intro W9 hw'
    have hb9 := later_h hw'
    clear hw'
    have hbw := hbw.trans (hb9.mono hbw.size)
    clear hb9 r0 r1
    go_wp2
    go_ret2
    exact ⟨ret_val (by have h1 := HN.out; have h2 := HO.out; simp_all [opT, kAt]), hbw⟩
  · have c0 : w1.cell? ⟨bk, of, none⟩ = some (.int .i64 a) := by rw [hbw.cell (by exact hbw0)]; exact HC.out.1
    have c1 : w1.cell? ⟨bk, of + 1, none⟩ = some (.int .i64 b) := by rw [hbw.cell (by exact hbw0)]; exact HC.out.2
    have r0 := Later.cell c0
    have r1 := Later.cell c1
    have K1 := Lib.hid (fun ok k => Later.call (fits_later ok k w1))
    clear c0 c1
    go_upto_region 31 with (fail)
    refine wp_region_later (by kernel_rfl) (by kernel_rfl) ?_
    repeat (go_big_quiet_step (with_reducible exact K1.out _ _ _))
    refine wpQuiet_nil ?_
    intro W9 hw'
    have hb9 := later_h hw'
    clear hw'
    have hbw := hbw.trans (hb9.mono hbw.size)
    clear hb9 r0 r1
    go_wp2
    go_ret2
    exact ⟨ret_val (by have h1 := HN.out; have h2 := HO.out; simp_all [opT, kAt]), hbw⟩
set_option maxHeartbeats 2000000 in
set_option maxRecDepth 100000 in
theorem opType_39 (a b : Int) (A : Option Addr) (c B : Nat) (w : World) (hx : Reads w B 1 A 2 (numV .i64 [a, b])) (hB : B ≤ w.heap.size) :
    Calls Tryz.prog 44 #[.int .i64 39, .slice A 2 c] w fun e w' => e = .returned (.tuple #[.int .i64 (opT 39 [a, b]).1, .int .i64 (opT 39 [a, b]).2]) ∧ Below w.heap.size w w' := by
  obtain ⟨n, hn⟩ : ∃ n, allB [a, b] 2 = n := ⟨_, rfl⟩
  obtain ⟨o, ho⟩ : ∃ o, allB [a, b] 6 = o := ⟨_, rfl⟩
  have HN := Lib.hid hn
  have HO := Lib.hid ho
  have HAO := Lib.hid (fun k w' (hb : Below w.heap.size w w') => allOf_any [a, b] A c B k w' (by show 2 ≤ _; decide) (hx.below (hb.mono hB)) (Nat.le_trans hB hb.size))
  obtain ⟨bk, of, rfl, hbk, hcell⟩ := hx.plain (by decide)
  have hc0 : w.cell? ⟨bk, of, none⟩ = some (.int .i64 a) := hcell 0 _ rfl
  have hc1 : w.cell? ⟨bk, of + 1, none⟩ = some (.int .i64 b) := hcell 1 _ rfl
  have hbw0 : bk < w.heap.size := by omega
  have HC := Lib.hid (And.intro hc0 hc1)
  clear hcell hc0 hc1
  clear hn ho hx
  go_enter Tryz.func44, Tryz.ntmps44
  go_wp2_with fail
  refine (HAO.out 2 w (Below.refl _ _)).mono ?_
  rw [HN.out]
  rintro e w1 ⟨rfl, hbw⟩
  cases n
  · go_wp2_with fail
    refine (HAO.out 6 w1 hbw).mono ?_
    rw [HO.out]
    rintro e w2 ⟨rfl, hb2⟩
    have hbw := hbw.trans (hb2.mono hbw.size)
    clear hb2
    have c0 : w2.cell? ⟨bk, of, none⟩ = some (.int .i64 a) := by rw [hbw.cell (by exact hbw0)]; exact HC.out.1
    have c1 : w2.cell? ⟨bk, of + 1, none⟩ = some (.int .i64 b) := by rw [hbw.cell (by exact hbw0)]; exact HC.out.2
    rcases h7 : (a == 6) with _ | _ <;> rcases h8 : (b == 2) with _ | _
    all_goals
      have HA := Lib.hid (And.intro h7 h8)
      go_wp2_with (first | (go_at_call 74; refine (fits_any _ _ _).mono ?_; rintro e9 w9 ⟨rfl, rfl⟩))
      go_ret2
      exact ⟨ret_val (by have h1 := HN.out; have h2 := HO.out; have h3 := HA.out; rw [show opT 39 [a, b] = fitT ((a == 6) && (b == 2)) 6 from rfl, h3.1, h3.2]; rfl), hbw⟩
  · have c0 : w1.cell? ⟨bk, of, none⟩ = some (.int .i64 a) := by rw [hbw.cell (by exact hbw0)]; exact HC.out.1
    have c1 : w1.cell? ⟨bk, of + 1, none⟩ = some (.int .i64 b) := by rw [hbw.cell (by exact hbw0)]; exact HC.out.2
    rcases h7 : (a == 6) with _ | _ <;> rcases h8 : (b == 2) with _ | _
    all_goals
      have HA := Lib.hid (And.intro h7 h8)
      go_wp2_with (first | (go_at_call 74; refine (fits_any _ _ _).mono ?_; rintro e9 w9 ⟨rfl, rfl⟩))
      go_ret2
      exact ⟨ret_val (by have h1 := HN.out; have h2 := HO.out; have h3 := HA.out; rw [show opT 39 [a, b] = fitT ((a == 6) && (b == 2)) 6 from rfl, h3.1, h3.2]; rfl), hbw⟩
end Go.Proofs.YtpanbeoelbhhgaaGreatDoor
namespace Go.Proofs.YtpanbeoelbhhgaaGreatDoor
open Go.RowKit
theorem opType_any (op : Int) (ks : List Int) (A : Option Addr) (c B : Nat) (w : World) (h1 : 1 ≤ op) (h2 : op ≤ 39) (ha : (arOf op).1 ≤ ks.length ∧ ks.length ≤ (arOf op).2) (hk : ks.length ≤ maxLen) (hx : Reads w B 1 A ks.length (numV .i64 ks)) (hB : B ≤ w.heap.size) :
    Calls Tryz.prog 44 #[.int .i64 op, .slice A ks.length c] w fun e w' => e = .returned (.tuple #[.int .i64 (opT op ks).1, .int .i64 (opT op ks).2]) ∧ Below w.heap.size w w' := by
  obtain rfl | rfl | rfl | rfl | rfl | rfl | rfl | rfl | rfl | rfl | rfl | rfl | rfl | rfl | rfl | rfl | rfl | rfl | rfl | rfl | rfl | rfl | rfl | rfl | rfl | rfl | rfl | rfl | rfl | rfl | rfl | rfl | rfl | rfl | rfl | rfl | rfl | rfl | rfl : op = 1 ∨ op = 2 ∨ op = 3 ∨ op = 4 ∨ op = 5 ∨ op = 6 ∨ op = 7 ∨ op = 8 ∨ op = 9 ∨ op = 10 ∨ op = 11 ∨ op = 12 ∨ op = 13 ∨ op = 14 ∨ op = 15 ∨ op = 16 ∨ op = 17 ∨ op = 18 ∨ op = 19 ∨ op = 20 ∨ op = 21 ∨ op = 22 ∨ op = 23 ∨ op = 24 ∨ op = 25 ∨ op = 26 ∨ op = 27 ∨ op = 28 ∨ op = 29 ∨ op = 30 ∨ op = 31 ∨ op = 32 ∨ op = 33 ∨ op = 34 ∨ op = 35 ∨ op = 36 ∨ op = 37 ∨ op = 38 ∨ op = 39 := by omega
  · match ks, ha with
    | [a], _ => exact opType_1 a A c B w hx hB
    | [], ha => exact absurd ha (by decide)
    | _ :: _ :: r, ha => have h : r.length + 1 + 1 ≤ 1 := ha.2; omega
  · match ks, ha with
    | a :: r, _ => exact opType_2 a r A c B w hk hx hB
    | [], ha => exact absurd ha (by decide)
  · match ks, ha with
    | a :: r, _ => exact opType_3 a r A c B w hk hx hB
    | [], ha => exact absurd ha (by decide)
  · match ks, ha with
    | [a, b], _ => exact opType_4 a b A c B w hx hB
    | [], ha => exact absurd ha (by decide)
    | [_], ha => have h : 2 ≤ 1 := ha.1; omega
    | _ :: _ :: _ :: r, ha => have h : r.length + 1 + 1 + 1 ≤ 2 := ha.2; omega
  · match ks, ha with
    | [a, b], _ => exact opType_5 a b A c B w hx hB
    | [], ha => exact absurd ha (by decide)
    | [_], ha => have h : 2 ≤ 1 := ha.1; omega
    | _ :: _ :: _ :: r, ha => have h : r.length + 1 + 1 + 1 ≤ 2 := ha.2; omega
  · match ks, ha with
    | [a, b], _ => exact opType_6 a b A c B w hx hB
    | [], ha => exact absurd ha (by decide)
    | [_], ha => have h : 2 ≤ 1 := ha.1; omega
    | _ :: _ :: _ :: r, ha => have h : r.length + 1 + 1 + 1 ≤ 2 := ha.2; omega
  · match ks, ha with
    | [a, b], _ => exact opType_7 a b A c B w hx hB
    | [], ha => exact absurd ha (by decide)
    | [_], ha => have h : 2 ≤ 1 := ha.1; omega
    | _ :: _ :: _ :: r, ha => have h : r.length + 1 + 1 + 1 ≤ 2 := ha.2; omega
  · match ks, ha with
    | [a, b], _ => exact opType_8 a b A c B w hx hB
    | [], ha => exact absurd ha (by decide)
    | [_], ha => have h : 2 ≤ 1 := ha.1; omega
    | _ :: _ :: _ :: r, ha => have h : r.length + 1 + 1 + 1 ≤ 2 := ha.2; omega
  · match ks, ha with
    | [a, b], _ => exact opType_9 a b A c B w hx hB
    | [], ha => exact absurd ha (by decide)
    | [_], ha => have h : 2 ≤ 1 := ha.1; omega
    | _ :: _ :: _ :: r, ha => have h : r.length + 1 + 1 + 1 ≤ 2 := ha.2; omega
  · match ks, ha with
    | [a, b], _ => exact opType_10 a b A c B w hx hB
    | [], ha => exact absurd ha (by decide)
    | [_], ha => have h : 2 ≤ 1 := ha.1; omega
    | _ :: _ :: _ :: r, ha => have h : r.length + 1 + 1 + 1 ≤ 2 := ha.2; omega
  · match ks, ha with
    | [a, b], _ => exact opType_11 a b A c B w hx hB
    | [], ha => exact absurd ha (by decide)
    | [_], ha => have h : 2 ≤ 1 := ha.1; omega
    | _ :: _ :: _ :: r, ha => have h : r.length + 1 + 1 + 1 ≤ 2 := ha.2; omega
  · match ks, ha with
    | [a], _ => exact opType_12 a A c B w hx hB
    | [], ha => exact absurd ha (by decide)
    | _ :: _ :: r, ha => have h : r.length + 1 + 1 ≤ 1 := ha.2; omega
  · match ks, ha with
    | [a], _ => exact opType_13 a A c B w hx hB
    | [], ha => exact absurd ha (by decide)
    | _ :: _ :: r, ha => have h : r.length + 1 + 1 ≤ 1 := ha.2; omega
  · match ks, ha with
    | [a], _ => exact opType_14 a A c B w hx hB
    | [], ha => exact absurd ha (by decide)
    | _ :: _ :: r, ha => have h : r.length + 1 + 1 ≤ 1 := ha.2; omega
  · match ks, ha with
    | [a, b], _ => exact opType_15 a b A c B w hx hB
    | [], ha => exact absurd ha (by decide)
    | [_], ha => have h : 2 ≤ 1 := ha.1; omega
    | _ :: _ :: _ :: r, ha => have h : r.length + 1 + 1 + 1 ≤ 2 := ha.2; omega
  · match ks, ha with
    | [a, b], _ => exact opType_16 a b A c B w hx hB
    | [], ha => exact absurd ha (by decide)
    | [_], ha => have h : 2 ≤ 1 := ha.1; omega
    | _ :: _ :: _ :: r, ha => have h : r.length + 1 + 1 + 1 ≤ 2 := ha.2; omega
  · match ks, ha with
    | [a, b], _ => exact opType_17 a b A c B w hx hB
    | [], ha => exact absurd ha (by decide)
    | [_], ha => have h : 2 ≤ 1 := ha.1; omega
    | _ :: _ :: _ :: r, ha => have h : r.length + 1 + 1 + 1 ≤ 2 := ha.2; omega
  · match ks, ha with
    | [a, b], _ => exact opType_18 a b A c B w hx hB
    | [], ha => exact absurd ha (by decide)
    | [_], ha => have h : 2 ≤ 1 := ha.1; omega
    | _ :: _ :: _ :: r, ha => have h : r.length + 1 + 1 + 1 ≤ 2 := ha.2; omega
  · match ks, ha with
    | [a, b], _ => exact opType_19 a b A c B w hx hB
    | [], ha => exact absurd ha (by decide)
    | [_], ha => have h : 2 ≤ 1 := ha.1; omega
    | _ :: _ :: _ :: r, ha => have h : r.length + 1 + 1 + 1 ≤ 2 := ha.2; omega
  · match ks, ha with
    | [a], _ => exact opType_20 a A c B w hx hB
    | [], ha => exact absurd ha (by decide)
    | _ :: _ :: r, ha => have h : r.length + 1 + 1 ≤ 1 := ha.2; omega
  · match ks, ha with
    | [a], _ => exact opType_21 a A c B w hx hB
    | [], ha => exact absurd ha (by decide)
    | _ :: _ :: r, ha => have h : r.length + 1 + 1 ≤ 1 := ha.2; omega
  · match ks, ha with
    | [a], _ => exact opType_22 a A c B w hx hB
    | [], ha => exact absurd ha (by decide)
    | _ :: _ :: r, ha => have h : r.length + 1 + 1 ≤ 1 := ha.2; omega
  · match ks, ha with
    | [a], _ => exact opType_23 a A c B w hx hB
    | [], ha => exact absurd ha (by decide)
    | _ :: _ :: r, ha => have h : r.length + 1 + 1 ≤ 1 := ha.2; omega
  · match ks, ha with
    | a :: r, _ => exact opType_24 a r A c B w hk hx hB
    | [], ha => exact absurd ha (by decide)
  · match ks, ha with
    | a :: r, _ => exact opType_25 a r A c B w hk hx hB
    | [], ha => exact absurd ha (by decide)
  · match ks, ha with
    | [a, b, d], _ => exact opType_26 a b d A c B w hx hB
    | [], ha => exact absurd ha (by decide)
    | [_], ha => have h : 3 ≤ 1 := ha.1; omega
    | [_, _], ha => have h : 3 ≤ 2 := ha.1; omega
    | _ :: _ :: _ :: _ :: r, ha => have h : r.length + 1 + 1 + 1 + 1 ≤ 3 := ha.2; omega
  · match ks, ha with
    | [a, b], _ => exact opType_27 a b A c B w hx hB
    | [], ha => exact absurd ha (by decide)
    | [_], ha => have h : 2 ≤ 1 := ha.1; omega
    | _ :: _ :: _ :: r, ha => have h : r.length + 1 + 1 + 1 ≤ 2 := ha.2; omega
  · match ks, ha with
    | [a], _ => exact opType_28 a A c B w hx hB
    | [], ha => exact absurd ha (by decide)
    | _ :: _ :: r, ha => have h : r.length + 1 + 1 ≤ 1 := ha.2; omega
  · match ks, ha with
    | [a], _ => exact opType_29 a A c B w hx hB
    | [], ha => exact absurd ha (by decide)
    | _ :: _ :: r, ha => have h : r.length + 1 + 1 ≤ 1 := ha.2; omega
  · match ks, ha with
    | [a], _ => exact opType_30 a A c B w hx hB
    | [], ha => exact absurd ha (by decide)
    | _ :: _ :: r, ha => have h : r.length + 1 + 1 ≤ 1 := ha.2; omega
  · match ks, ha with
    | [a, b], _ => exact opType_31 a b A c B w hx hB
    | [], ha => exact absurd ha (by decide)
    | [_], ha => have h : 2 ≤ 1 := ha.1; omega
    | _ :: _ :: _ :: r, ha => have h : r.length + 1 + 1 + 1 ≤ 2 := ha.2; omega
  · match ks, ha with
    | [a, b], _ => exact opType_32 a b A c B w hx hB
    | [], ha => exact absurd ha (by decide)
    | [_], ha => have h : 2 ≤ 1 := ha.1; omega
    | _ :: _ :: _ :: r, ha => have h : r.length + 1 + 1 + 1 ≤ 2 := ha.2; omega
  · match ks, ha with
    | [a, b], _ => exact opType_33 a b A c B w hx hB
    | [], ha => exact absurd ha (by decide)
    | [_], ha => have h : 2 ≤ 1 := ha.1; omega
    | _ :: _ :: _ :: r, ha => have h : r.length + 1 + 1 + 1 ≤ 2 := ha.2; omega
  · match ks, ha with
    | [a], _ => exact opType_34 a A c B w hx hB
    | [], ha => exact absurd ha (by decide)
    | _ :: _ :: r, ha => have h : r.length + 1 + 1 ≤ 1 := ha.2; omega
  · match ks, ha with
    | [a], _ => exact opType_35 a A c B w hx hB
    | [], ha => exact absurd ha (by decide)
    | _ :: _ :: r, ha => have h : r.length + 1 + 1 ≤ 1 := ha.2; omega
  · match ks, ha with
    | [a], _ => exact opType_36 a A c B w hx hB
    | [], ha => exact absurd ha (by decide)
    | _ :: _ :: r, ha => have h : r.length + 1 + 1 ≤ 1 := ha.2; omega
  · match ks, ha with
    | [a, b], _ => exact opType_37 a b A c B w hx hB
    | [], ha => exact absurd ha (by decide)
    | [_], ha => have h : 2 ≤ 1 := ha.1; omega
    | _ :: _ :: _ :: r, ha => have h : r.length + 1 + 1 + 1 ≤ 2 := ha.2; omega
  · match ks, ha with
    | [a, b], _ => exact opType_38 a b A c B w hx hB
    | [], ha => exact absurd ha (by decide)
    | [_], ha => have h : 2 ≤ 1 := ha.1; omega
    | _ :: _ :: _ :: r, ha => have h : r.length + 1 + 1 + 1 ≤ 2 := ha.2; omega
  · match ks, ha with
    | [a, b], _ => exact opType_39 a b A c B w hx hB
    | [], ha => exact absurd ha (by decide)
    | [_], ha => have h : 2 ≤ 1 := ha.1; omega
    | _ :: _ :: _ :: r, ha => have h : r.length + 1 + 1 + 1 ≤ 2 := ha.2; omega
end Go.Proofs.YtpanbeoelbhhgaaGreatDoor
namespace Go.Proofs.YtpanbeoelbhhgaaGreatDoor
def cellK (cells : List CellD) (nm : ByteArray) (at_ : List ByteArray) : Int × Int := match cells.find? (fun c => decide (c.nm = nm) && beginsB c.loops at_) with
  | some c => (c.kind, 0)
  | none => (0, 5)
def nestK (loops : List NestD) (nm : ByteArray) (at_ : List ByteArray) : Option (List ByteArray) := match loops.find? (fun n => decide (n.nm = nm)) with
  | some n => if beginsB n.loops at_ then some (n.loops ++ [n.nm]) else none
  | none => none
mutual
def Ex.kind (cells : List CellD) (loops : List NestD) : Ex → List ByteArray → Int × Int
  | .mk k op nm v ar, at_ =>
    if k = 1 then (v.k, 0) else if k = 2 then cellK cells nm at_ else if k = 3 then (if Lib.containsS at_ nm then (2, 0) else (0, 5)) else
    if k = 5 then (match nestK loops nm at_ with
      | none => (0, 5)
      | some at' => overL cells loops ar at' op) else
    (match kindsL cells loops ar at_ [] with
      | (why, ks) => if why ≠ 0 then (0, why) else opT op ks)
def overL (cells : List CellD) (loops : List NestD) : List Ex → List ByteArray → Int → Int × Int
  | [], _, _ => (0, 0)
  | a :: _, at', op => if (a.kind cells loops at').2 ≠ 0 then (0, (a.kind cells loops at').2) else overT op (a.kind cells loops at').1
def kindsL (cells : List CellD) (loops : List NestD) : List Ex → List ByteArray → List Int → Int × List Int
  | [], _, ks => (0, ks)
  | a :: r, at_, ks => if (a.kind cells loops at_).2 ≠ 0 then ((a.kind cells loops at_).2, ks) else kindsL cells loops r at_ (ks ++ [(a.kind cells loops at_).1])
end
theorem kind_eq (cells : List CellD) (loops : List NestD) (e : Ex) (at_ : List ByteArray) : e.kind cells loops at_ =
    if e.k = 1 then (e.v.k, 0) else if e.k = 2 then cellK cells e.nm at_ else if e.k = 3 then (if Lib.containsS at_ e.nm then (2, 0) else (0, 5)) else
    if e.k = 5 then (match nestK loops e.nm at_ with
      | none => (0, 5)
      | some at' => overL cells loops e.ar at' e.op) else
    (if (kindsL cells loops e.ar at_ []).1 ≠ 0 then (0, (kindsL cells loops e.ar at_ []).1) else opT e.op (kindsL cells loops e.ar at_ []).2) := by
  cases e; rw [Ex.kind]; rfl
theorem kindsL_step (cells : List CellD) (loops : List NestD) (ar : List Ex) (at_ : List ByteArray) (ks : List Int) (k : Nat) (h : k < ar.length) : kindsL cells loops (ar.drop k) at_ ks =
    if (ar[k].kind cells loops at_).2 ≠ 0 then ((ar[k].kind cells loops at_).2, ks) else kindsL cells loops (ar.drop (k + 1)) at_ (ks ++ [(ar[k].kind cells loops at_).1]) := by
  rw [List.drop_eq_getElem_cons h, kindsL]
structure WOk (cells : List CellD) (loops : List NestD) : Prop where
  kinds : ∀ c ∈ cells, 2 ≤ c.kind ∧ c.kind ≤ 7
  oneC : cells.Pairwise (fun a b => a.nm ≠ b.nm)
  oneN : loops.Pairwise (fun a b => a.nm ≠ b.nm)
end Go.Proofs.YtpanbeoelbhhgaaGreatDoor
namespace Go.Proofs.YtpanbeoelbhhgaaGreatDoor
open Go.RowKit
attribute [local go_sem ↓] Go.wp_at_zero Go.wp_at_succ
/-- both maps of a world lie there -/
structure TyW (w : World) (B m1 m2 : Nat) (kv1 kv2 : List (ByteArray × Value)) (cells : List CellD) (loops : List NestD) : Prop where
  c : MapIs w m1 kv1
  cc : KvC w B kv1 cells
  n : MapIs w m2 kv2
  nn : KvN w B kv2 loops
theorem NestAt.up {w : World} {B B' : Nat} {d : NestD} {cs : List Value} (h : NestAt w B d cs) (hb : B ≤ B') : NestAt w B' d cs := by
  obtain ⟨⟨A, c, e, hx, hc⟩, h1, h2, h3⟩ := h
  exact ⟨⟨A, c, e, hx.more hb, hc⟩, h1, h2, h3⟩
theorem CellAt.up {w : World} {B B' : Nat} {d : CellD} {cs : List Value} (h : CellAt w B d cs) (hb : B ≤ B') : CellAt w B' d cs := by
  obtain ⟨⟨A, c, e, hx, hc⟩, h1, h2, h3⟩ := h
  exact ⟨⟨A, c, e, hx.more hb, hc⟩, h1, h2, h3⟩
theorem TyW.keep {w w' : World} {B m1 m2 : Nat} {kv1 kv2 : List (ByteArray × Value)} {cells : List CellD} {loops : List NestD} (h : TyW w B m1 m2 kv1 kv2 cells loops) (hb : Below w.heap.size w w') (hB : B ≤ w.heap.size) : TyW w' B m1 m2 kv1 kv2 cells loops :=
  ⟨h.c.below hb h.c.lt, h.cc.keep (hb.mono hB), h.n.below hb h.n.lt, h.nn.keep (hb.mono hB)⟩
theorem TyW.up {w : World} {B B' m1 m2 : Nat} {kv1 kv2 : List (ByteArray × Value)} {cells : List CellD} {loops : List NestD} (h : TyW w B m1 m2 kv1 kv2 cells loops) (hb : B ≤ B') : TyW w B' m1 m2 kv1 kv2 cells loops :=
  ⟨h.c, ⟨h.cc.no, fun s v hv => by obtain ⟨d, cs, h1, h2, h3, h4⟩ := h.cc.yes s v hv; exact ⟨d, cs, h1, h2, h3, h4.up hb⟩, h.cc.len, h.cc.one⟩, h.n,
    ⟨h.nn.no, fun s v hv => by obtain ⟨d, cs, h1, h2, h3, h4⟩ := h.nn.yes s v hv; exact ⟨d, cs, h1, h2, h3, h4.up hb⟩, h.nn.len, h.nn.one⟩⟩
theorem find_none {α : Type} {f : α → Bool} {l : List α} (h : ∀ d ∈ l, f d = false) : l.find? f = none := by
  rw [List.find?_eq_none]
  intro d hd
  rw [h d hd]; decide
/-- a cell by the map -/
theorem cellK_map {w : World} {B : Nat} {kv : List (ByteArray × Value)} {l : List CellD} (h : KvC w B kv l) (s : ByteArray) (at_ : List ByteArray) :
    (getK kv s = none ∧ cellK l s at_ = (0, 5)) ∨ ∃ d cs, getK kv s = some (.agg cs.toArray) ∧ CellAt w B d cs ∧ d ∈ l ∧ cellK l s at_ = if beginsB d.loops at_ then (d.kind, 0) else (0, 5) := by
  cases hg : getK kv s with
  | none =>
    refine .inl ⟨rfl, ?_⟩
    unfold cellK
    rw [find_none (fun d hd => by have := h.no s hg d hd; simp [this])]
  | some v =>
    obtain ⟨d, cs, h1, h2, h3, h4⟩ := h.yes s v hg
    refine .inr ⟨d, cs, by rw [h3], h4, h1, ?_⟩
    unfold cellK
    cases hb : beginsB d.loops at_ with
    | false =>
      rw [find_none (fun x hx => by
        by_cases hq : x.nm = s
        · have := one_of (f := CellD.nm) h.one hx h1 (by rw [hq, h2])
          subst this; simp [hb]
        · simp [hq])]
      rfl
    | true =>
      cases hf : l.find? (fun c => decide (c.nm = s) && beginsB c.loops at_) with
      | none => exact absurd (List.find?_eq_none.1 hf d h1) (by simp [h2, hb])
      | some x =>
        have hx := List.find?_some hf
        rw [Bool.and_eq_true, decide_eq_true_iff] at hx
        have := one_of (f := CellD.nm) h.one (List.mem_of_find?_eq_some hf) h1 (by rw [hx.1, h2])
        subst this; rfl
/-- a loop by the map -/
theorem nestK_map {w : World} {B : Nat} {kv : List (ByteArray × Value)} {l : List NestD} (h : KvN w B kv l) (s : ByteArray) (at_ : List ByteArray) :
    (getK kv s = none ∧ nestK l s at_ = none) ∨ ∃ d cs, getK kv s = some (.agg cs.toArray) ∧ NestAt w B d cs ∧ d ∈ l ∧ nestK l s at_ = if beginsB d.loops at_ then some (d.loops ++ [d.nm]) else none := by
  cases hg : getK kv s with
  | none =>
    refine .inl ⟨rfl, ?_⟩
    unfold nestK
    rw [find_none (fun d hd => by have := h.no s hg d hd; simp [this])]
  | some v =>
    obtain ⟨d, cs, h1, h2, h3, h4⟩ := h.yes s v hg
    refine .inr ⟨d, cs, by rw [h3], h4, h1, ?_⟩
    unfold nestK
    cases hf : l.find? (fun n => decide (n.nm = s)) with
    | none => exact absurd (List.find?_eq_none.1 hf d h1) (by simp [h2])
    | some x =>
      have hx := List.find?_some hf
      rw [decide_eq_true_iff] at hx
      have := one_of (f := NestD.nm) h.one (List.mem_of_find?_eq_some hf) h1 (by rw [hx, h2])
      subst this; rfl
set_option maxHeartbeats 2000000 in
set_option maxRecDepth 100000 in
theorem typed_1 (e : Ex) (cells : List CellD) (loops : List NestD) (hk : e.k = 1) (kv1 kv2 : List (ByteArray × Value)) (m1 m2 B : Nat) (at_ : List ByteArray) (A : Option Addr) (c : Nat) (cs : List Value) (w : World) (hx : ExAt w B e cs) (_hw : TyW w B m1 m2 kv1 kv2 cells loops) (_ha : at_.length ≤ maxLen) (_hat : StrsAt w B A at_) (_hc : at_.length ≤ c) (_hB : B ≤ w.heap.size) :
    Calls Tryz.prog 17 #[.agg #[.map (some m1), .map (some m2)], .agg cs.toArray, .slice A at_.length c] w fun en w' => en = .returned (.tuple #[.int .i64 (e.kind cells loops at_).1, .int .i64 (e.kind cells loops at_).2]) ∧ Below w.heap.size w w' := by
  have HXA := Lib.hid hx
  obtain ⟨hn, hs, hl, ha8, hx, hr, hi⟩ := hx
  rename_i A1 c1 A2 c2 cs
  have HK := Lib.hid (show e.kind cells loops at_ = (e.v.k, 0) by rw [kind_eq, if_pos hk])
  have hkb : (e.k == 1) = true := by rw [hk]; rfl
  clear hx hr hi _hw _hat _hB hk
  show Calls Tryz.prog 17 #[.agg #[.map (some m1), .map (some m2)], .agg #[.int .i64 e.k, .int .i64 e.op, .string e.nm, .int .i64 e.v.k, .int .i64 e.v.n, .string e.v.s, .slice A1 e.v.l.length c1, .slice A2 e.ar.length c2], .slice A at_.length c] w _
  go_enter Tryz.func17, Tryz.ntmps17
  go_upto_region 1 with (fail)
  obtain ⟨W, hW⟩ : ∃ W, W = ((w.alloc (.cells #[.map (some m1), .map (some m2)] 57 (0, 0))).alloc (.cells #[.int .i64 e.k, .int .i64 e.op, .string e.nm, .int .i64 e.v.k, .int .i64 e.v.n, .string e.v.s, .slice A1 e.v.l.length c1, .slice A2 e.ar.length c2] 27 (0, 0))) := ⟨_, rfl⟩
  have hbw : Below w.heap.size w W := by rw [hW]; exact (((Below.refl _ w).alloc (Nat.le_refl _) _).alloc (by simp) _)
  have B0 : Blk W (w.heap.size) 57 #[.map (some m1), .map (some m2)] := by
    rw [hW]
    have := Blk.new w 57 #[.map (some m1), .map (some m2)]
    have := this.alloc (.cells #[.int .i64 e.k, .int .i64 e.op, .string e.nm, .int .i64 e.v.k, .int .i64 e.v.n, .string e.v.s, .slice A1 e.v.l.length c1, .slice A2 e.ar.length c2] 27 (0, 0))
    exact this
  have B1 : Blk W (w.heap.size + 1) 27 #[.int .i64 e.k, .int .i64 e.op, .string e.nm, .int .i64 e.v.k, .int .i64 e.v.n, .string e.v.s, .slice A1 e.v.l.length c1, .slice A2 e.ar.length c2] := by
    rw [hW]
    have := Blk.new (w.alloc (.cells #[.map (some m1), .map (some m2)] 57 (0, 0))) 27 #[.int .i64 e.k, .int .i64 e.op, .string e.nm, .int .i64 e.v.k, .int .i64 e.v.n, .string e.v.s, .slice A1 e.v.l.length c1, .slice A2 e.ar.length c2]
    rwa [World.size_alloc] at this
  have hsz : W.heap.size = w.heap.size + 2 := by rw [hW]; simp
  rw [← hW]
  clear hW hsz
  have ec0 : W.cell? ⟨w.heap.size + 1, 0, none⟩ = some (.int .i64 e.k) := B1.cell 0
  have ec1 : W.cell? ⟨w.heap.size + 1, 1, none⟩ = some (.int .i64 e.op) := B1.cell 1
  have ec2 : W.cell? ⟨w.heap.size + 1, 2, none⟩ = some (.string e.nm) := B1.cell 2
  have ec3 : W.cell? ⟨w.heap.size + 1, 3, none⟩ = some (.int .i64 e.v.k) := B1.cell 3
  have ec4 : W.cell? ⟨w.heap.size + 1, 4, none⟩ = some (.int .i64 e.v.n) := B1.cell 4
  have ec5 : W.cell? ⟨w.heap.size + 1, 5, none⟩ = some (.string e.v.s) := B1.cell 5
  have ec6 : W.cell? ⟨w.heap.size + 1, 6, none⟩ = some (.slice A1 e.v.l.length c1) := B1.cell 6
  have ec7 : W.cell? ⟨w.heap.size + 1, 7, none⟩ = some (.slice A2 e.ar.length c2) := B1.cell 7
  clear B0 B1
  go_wp2_with fail
  go_ret2
  exact ⟨by rw [HK.out]; rfl, hbw⟩
set_option maxHeartbeats 2000000 in
set_option maxRecDepth 100000 in
theorem typed_3 (e : Ex) (cells : List CellD) (loops : List NestD) (hk : e.k = 3) (kv1 kv2 : List (ByteArray × Value)) (m1 m2 B : Nat) (at_ : List ByteArray) (A : Option Addr) (c : Nat) (cs : List Value) (w : World) (hx : ExAt w B e cs) (_hw : TyW w B m1 m2 kv1 kv2 cells loops) (ha : at_.length ≤ maxLen) (hat : StrsAt w B A at_) (_hc : at_.length ≤ c) (hB : B ≤ w.heap.size) :
    Calls Tryz.prog 17 #[.agg #[.map (some m1), .map (some m2)], .agg cs.toArray, .slice A at_.length c] w fun en w' => en = .returned (.tuple #[.int .i64 (e.kind cells loops at_).1, .int .i64 (e.kind cells loops at_).2]) ∧ Below w.heap.size w w' := by
  have HXA := Lib.hid hx
  obtain ⟨hn, hs, hl, ha8, hx, hr, hi⟩ := hx
  rename_i A1 c1 A2 c2 cs
  have HK := Lib.hid (show e.kind cells loops at_ = if Lib.containsS at_ e.nm then (2, 0) else (0, 5) by rw [kind_eq, if_neg (by omega), if_neg (by omega), if_pos hk])
  have hk1 : (e.k == 1) = false := by rw [hk]; rfl
  have hk2 : (e.k == 2) = false := by rw [hk]; rfl
  have hk3 : (e.k == 3) = true := by rw [hk]; rfl
  obtain ⟨q, hq⟩ : ∃ q, Lib.containsS at_ e.nm = q := ⟨_, rfl⟩
  have HQ := Lib.hid hq
  have HC := Lib.hid (fun w' (hb : Below w.heap.size w w') => containsStr_any A c B at_ e.nm w' ha (hat.below (hb.mono hB)))
  clear hx hr hi _hw hat hB hq hk
  show Calls Tryz.prog 17 #[.agg #[.map (some m1), .map (some m2)], .agg #[.int .i64 e.k, .int .i64 e.op, .string e.nm, .int .i64 e.v.k, .int .i64 e.v.n, .string e.v.s, .slice A1 e.v.l.length c1, .slice A2 e.ar.length c2], .slice A at_.length c] w _
  go_enter Tryz.func17, Tryz.ntmps17
  go_upto_region 1 with (fail)
  obtain ⟨W, hW⟩ : ∃ W, W = ((w.alloc (.cells #[.map (some m1), .map (some m2)] 57 (0, 0))).alloc (.cells #[.int .i64 e.k, .int .i64 e.op, .string e.nm, .int .i64 e.v.k, .int .i64 e.v.n, .string e.v.s, .slice A1 e.v.l.length c1, .slice A2 e.ar.length c2] 27 (0, 0))) := ⟨_, rfl⟩
  have hbw : Below w.heap.size w W := by rw [hW]; exact (((Below.refl _ w).alloc (Nat.le_refl _) _).alloc (by simp) _)
  have B0 : Blk W (w.heap.size) 57 #[.map (some m1), .map (some m2)] := by
    rw [hW]
    have := Blk.new w 57 #[.map (some m1), .map (some m2)]
    have := this.alloc (.cells #[.int .i64 e.k, .int .i64 e.op, .string e.nm, .int .i64 e.v.k, .int .i64 e.v.n, .string e.v.s, .slice A1 e.v.l.length c1, .slice A2 e.ar.length c2] 27 (0, 0))
    exact this
  have B1 : Blk W (w.heap.size + 1) 27 #[.int .i64 e.k, .int .i64 e.op, .string e.nm, .int .i64 e.v.k, .int .i64 e.v.n, .string e.v.s, .slice A1 e.v.l.length c1, .slice A2 e.ar.length c2] := by
    rw [hW]
    have := Blk.new (w.alloc (.cells #[.map (some m1), .map (some m2)] 57 (0, 0))) 27 #[.int .i64 e.k, .int .i64 e.op, .string e.nm, .int .i64 e.v.k, .int .i64 e.v.n, .string e.v.s, .slice A1 e.v.l.length c1, .slice A2 e.ar.length c2]
    rwa [World.size_alloc] at this
  have hsz : W.heap.size = w.heap.size + 2 := by rw [hW]; simp
  rw [← hW]
  clear hW hsz
  have ec0 : W.cell? ⟨w.heap.size + 1, 0, none⟩ = some (.int .i64 e.k) := B1.cell 0
  have ec1 : W.cell? ⟨w.heap.size + 1, 1, none⟩ = some (.int .i64 e.op) := B1.cell 1
  have ec2 : W.cell? ⟨w.heap.size + 1, 2, none⟩ = some (.string e.nm) := B1.cell 2
  have ec3 : W.cell? ⟨w.heap.size + 1, 3, none⟩ = some (.int .i64 e.v.k) := B1.cell 3
  have ec4 : W.cell? ⟨w.heap.size + 1, 4, none⟩ = some (.int .i64 e.v.n) := B1.cell 4
  have ec5 : W.cell? ⟨w.heap.size + 1, 5, none⟩ = some (.string e.v.s) := B1.cell 5
  have ec6 : W.cell? ⟨w.heap.size + 1, 6, none⟩ = some (.slice A1 e.v.l.length c1) := B1.cell 6
  have ec7 : W.cell? ⟨w.heap.size + 1, 7, none⟩ = some (.slice A2 e.ar.length c2) := B1.cell 7
  clear B0 B1
  go_wp2_with fail
  refine (HC.out W hbw).mono ?_
  rw [HQ.out]
  rintro en w1 ⟨rfl, rfl⟩
  cases q
  · have HK2 := Lib.hid (show e.kind cells loops at_ = (0, 5) by rw [HK.out, HQ.out]; rfl)
    go_wp2_with fail
    go_ret2
    exact ⟨by rw [HK2.out]; rfl, hbw⟩
  · have HK2 := Lib.hid (show e.kind cells loops at_ = (2, 0) by rw [HK.out, HQ.out]; rfl)
    go_wp2_with fail
    go_ret2
    exact ⟨by rw [HK2.out]; rfl, hbw⟩
end Go.Proofs.YtpanbeoelbhhgaaGreatDoor
namespace Go.Proofs.YtpanbeoelbhhgaaGreatDoor
open Go.RowKit
attribute [local go_sem ↓] Go.wp_at_zero Go.wp_at_succ
set_option maxHeartbeats 2000000 in
set_option maxRecDepth 100000 in
theorem typed_2 (e : Ex) (cells : List CellD) (loops : List NestD) (hk : e.k = 2) (kv1 kv2 : List (ByteArray × Value)) (m1 m2 B : Nat) (at_ : List ByteArray) (A : Option Addr) (c : Nat) (cs : List Value) (w : World) (hx : ExAt w B e cs) (hw : TyW w B m1 m2 kv1 kv2 cells loops) (ha : at_.length ≤ maxLen) (hat : StrsAt w B A at_) (hc : at_.length ≤ c) (hB : B ≤ w.heap.size) :
    Calls Tryz.prog 17 #[.agg #[.map (some m1), .map (some m2)], .agg cs.toArray, .slice A at_.length c] w fun en w' => en = .returned (.tuple #[.int .i64 (e.kind cells loops at_).1, .int .i64 (e.kind cells loops at_).2]) ∧ Below w.heap.size w w' := by
  have HXA := Lib.hid hx
  obtain ⟨hn, hs, hl, ha8, hx, hr, hi⟩ := hx
  rename_i A1 c1 A2 c2 cs
  have HK := Lib.hid (show e.kind cells loops at_ = cellK cells e.nm at_ by rw [kind_eq, if_neg (by omega), if_pos hk])
  have hk1 : (e.k == 1) = false := by rw [hk]; rfl
  have hk2 : (e.k == 2) = true := by rw [hk]; rfl
  have HNM := Lib.hid hn
  have HWW := Lib.hid hw
  have HAT := Lib.hid (And.intro ha (And.intro hat (And.intro hc hB)))
  have HN := Lib.hid (cellK_map hw.cc e.nm at_)
  clear hx hr hi hw hat hB hk
  show Calls Tryz.prog 17 #[.agg #[.map (some m1), .map (some m2)], .agg #[.int .i64 e.k, .int .i64 e.op, .string e.nm, .int .i64 e.v.k, .int .i64 e.v.n, .string e.v.s, .slice A1 e.v.l.length c1, .slice A2 e.ar.length c2], .slice A at_.length c] w _
  go_enter Tryz.func17, Tryz.ntmps17
  go_upto_region 1 with (fail)
  obtain ⟨W, hW⟩ : ∃ W, W = ((w.alloc (.cells #[.map (some m1), .map (some m2)] 57 (0, 0))).alloc (.cells #[.int .i64 e.k, .int .i64 e.op, .string e.nm, .int .i64 e.v.k, .int .i64 e.v.n, .string e.v.s, .slice A1 e.v.l.length c1, .slice A2 e.ar.length c2] 27 (0, 0))) := ⟨_, rfl⟩
  have hbw : Below w.heap.size w W := by rw [hW]; exact (((Below.refl _ w).alloc (Nat.le_refl _) _).alloc (by simp) _)
  have B0 : Blk W (w.heap.size) 57 #[.map (some m1), .map (some m2)] := by
    rw [hW]
    have := Blk.new w 57 #[.map (some m1), .map (some m2)]
    have := this.alloc (.cells #[.int .i64 e.k, .int .i64 e.op, .string e.nm, .int .i64 e.v.k, .int .i64 e.v.n, .string e.v.s, .slice A1 e.v.l.length c1, .slice A2 e.ar.length c2] 27 (0, 0))
    exact this
  have B1 : Blk W (w.heap.size + 1) 27 #[.int .i64 e.k, .int .i64 e.op, .string e.nm, .int .i64 e.v.k, .int .i64 e.v.n, .string e.v.s, .slice A1 e.v.l.length c1, .slice A2 e.ar.length c2] := by
    rw [hW]
    have := Blk.new (w.alloc (.cells #[.map (some m1), .map (some m2)] 57 (0, 0))) 27 #[.int .i64 e.k, .int .i64 e.op, .string e.nm, .int .i64 e.v.k, .int .i64 e.v.n, .string e.v.s, .slice A1 e.v.l.length c1, .slice A2 e.ar.length c2]
    rwa [World.size_alloc] at this
  have hsz : W.heap.size = w.heap.size + 2 := by rw [hW]; simp
  rw [← hW]
  clear hW hsz
  have ec0 : W.cell? ⟨w.heap.size + 1, 0, none⟩ = some (.int .i64 e.k) := B1.cell 0
  have ec1 : W.cell? ⟨w.heap.size + 1, 1, none⟩ = some (.int .i64 e.op) := B1.cell 1
  have ec2 : W.cell? ⟨w.heap.size + 1, 2, none⟩ = some (.string e.nm) := B1.cell 2
  have ec3 : W.cell? ⟨w.heap.size + 1, 3, none⟩ = some (.int .i64 e.v.k) := B1.cell 3
  have ec4 : W.cell? ⟨w.heap.size + 1, 4, none⟩ = some (.int .i64 e.v.n) := B1.cell 4
  have ec5 : W.cell? ⟨w.heap.size + 1, 5, none⟩ = some (.string e.v.s) := B1.cell 5
  have ec6 : W.cell? ⟨w.heap.size + 1, 6, none⟩ = some (.slice A1 e.v.l.length c1) := B1.cell 6
  have ec7 : W.cell? ⟨w.heap.size + 1, 7, none⟩ = some (.slice A2 e.ar.length c2) := B1.cell 7
  clear B1
  have HM1 := Lib.hid (HWW.out.c.below hbw HWW.out.c.lt)
  have wc0 : W.cell? ⟨w.heap.size, 0, none⟩ = some (.map (some m1)) := B0.cell 0
  rcases HN.out with ⟨hg, hf⟩ | ⟨d, ds, hg, hd, hdl, hf⟩
  · skip
    have hl0 : (Instr.lookup 54 (.map (some m1)) (.string e.nm) true).run Tryz.prog W = .ok (.tuple #[.agg #[.string ⟨#[]⟩, .int .i64 0, .slice none 0 0], .bool false]) W := by
      have h := HM1.out.look Tryz.underlying54 (zeroCell W) HNM.out
      rw [hg] at h
      exact h
    have HF := Lib.hid hf
    clear hf hg
    go_upto_region 6 with (fail)
    obtain ⟨W2, hW2⟩ : ∃ W2, W2 = W.alloc (.cells #[.string ⟨#[]⟩, .int .i64 0, .slice none 0 0] 101 (0, 0)) := ⟨_, rfl⟩
    have hb2 : Below W.heap.size W W2 := hW2 ▸ (Below.refl _ W).alloc (Nat.le_refl _) _
    have hbw2 := hbw.trans (hb2.mono hbw.size)
    have B2 : Blk W2 W.heap.size 101 #[.string ⟨#[]⟩, .int .i64 0, .slice none 0 0] := hW2 ▸ Blk.new W _ _
    rw [← hW2]
    clear hW2 hl0
    have HK2 := Lib.hid (show e.kind cells loops at_ = (0, 5) by rw [HK.out, HF.out])
    clear hb2 B2
    go_wp2_with (fail)
    go_ret2
    exact ⟨by rw [HK2.out]; rfl, hbw2⟩
  · obtain ⟨⟨A', c', rfl, hdx, hdc⟩, hd1, hd2, hd3⟩ := hd
    have HDX := Lib.hid (And.intro hdx hd2)
    clear hdx hd2 hd3
    have hl0 : (Instr.lookup 54 (.map (some m1)) (.string e.nm) true).run Tryz.prog W = .ok (.tuple #[.agg #[.string d.nm, .int .i64 d.kind, .slice A' d.loops.length c'], .bool true]) W := by
      have h := HM1.out.look Tryz.underlying54 (zeroCell W) HNM.out
      rw [hg] at h
      exact h
    have HF := Lib.hid hf
    clear hf hg
    go_upto_region 6 with (fail)
    obtain ⟨W2, hW2⟩ : ∃ W2, W2 = W.alloc (.cells #[.string d.nm, .int .i64 d.kind, .slice A' d.loops.length c'] 101 (0, 0)) := ⟨_, rfl⟩
    have hb2 : Below W.heap.size W W2 := hW2 ▸ (Below.refl _ W).alloc (Nat.le_refl _) _
    have hbw2 := hbw.trans (hb2.mono hbw.size)
    have B2 : Blk W2 W.heap.size 101 #[.string d.nm, .int .i64 d.kind, .slice A' d.loops.length c'] := hW2 ▸ Blk.new W _ _
    rw [← hW2]
    clear hW2 hl0
    obtain ⟨q, hq⟩ : ∃ q, beginsB d.loops at_ = q := ⟨_, rfl⟩
    have HQ := Lib.hid hq
    have HBG := Lib.hid (show Calls Tryz.prog 40 #[.slice A' d.loops.length c', .slice A at_.length c] W2 fun e w'' => e = .returned (.bool q) ∧ Below W2.heap.size W2 w'' by
      have h := beginning_any d.loops at_ A' c' A c B W2 HDX.out.2 HAT.out.1 (HDX.out.1.below (hbw2.mono HAT.out.2.2.2)) (HAT.out.2.1.below (hbw2.mono HAT.out.2.2.2)) HAT.out.2.2.1 (Nat.le_trans HAT.out.2.2.2 hbw2.size)
      rw [hq] at h
      exact h)
    have HB2 := Lib.hid B2
    have vc0 : W2.cell? ⟨W.heap.size, 0, none⟩ = some (.string d.nm) := B2.cell 0
    have vc1 : W2.cell? ⟨W.heap.size, 1, none⟩ = some (.int .i64 d.kind) := B2.cell 1
    have vc2 : W2.cell? ⟨W.heap.size, 2, none⟩ = some (.slice A' d.loops.length c') := B2.cell 2
    clear hb2 hq B2
    go_wp2_with fail
    refine HBG.out.mono ?_
    rintro en W9 ⟨rfl, hb9⟩
    have hbw9 := hbw2.trans (hb9.mono hbw2.size)
    have B9 := HB2.out.below hb9 HB2.out.lt
    clear vc0 vc1 vc2
    have v1 : W9.cell? ⟨W.heap.size, 1, none⟩ = some (.int .i64 d.kind) := B9.cell 1
    clear hb9 B9
    cases q
    · have HK2 := Lib.hid (show e.kind cells loops at_ = (0, 5) by rw [HK.out, HF.out, HQ.out]; rfl)
      go_wp2_with fail
      go_ret2
      exact ⟨by rw [HK2.out]; rfl, hbw9⟩
    · have HK2 := Lib.hid (show e.kind cells loops at_ = (d.kind, 0) by rw [HK.out, HF.out, HQ.out]; rfl)
      go_wp2_with fail
      go_ret2
      exact ⟨by rw [HK2.out]; rfl, hbw9⟩
end Go.Proofs.YtpanbeoelbhhgaaGreatDoor
