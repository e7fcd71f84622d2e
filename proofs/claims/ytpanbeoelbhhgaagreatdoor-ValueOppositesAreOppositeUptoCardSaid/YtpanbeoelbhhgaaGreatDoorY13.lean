/- The walks of opType for some operations. · The walks of opType for some operations. · The walks of opType for some operations. -/
import Derived.Test.YtpanbeoelbhhgaaGreatDoorY12
namespace Go.Proofs.YtpanbeoelbhhgaaGreatDoor
open Go.RowKit
attribute [local go_sem ↓] Go.wp_at_zero Go.wp_at_succ
set_option maxHeartbeats 2000000 in
set_option maxRecDepth 100000 in
theorem opType_1 (a : Int) (A : Option Addr) (c B : Nat) (w : World) (hx : Reads w B 1 A 1 (numV .i64 [a])) (hB : B ≤ w.heap.size) :
    Calls Tryz.prog 44 #[.int .i64 1, .slice A 1 c] w fun e w' => e = .returned (.tuple #[.int .i64 (opT 1 [a]).1, .int .i64 (opT 1 [a]).2]) ∧ Below w.heap.size w w' := by
  obtain ⟨n, hn⟩ : ∃ n, allB [a] 2 = n := ⟨_, rfl⟩
  obtain ⟨o, ho⟩ : ∃ o, allB [a] 6 = o := ⟨_, rfl⟩
  have HN := Lib.hid hn
  have HO := Lib.hid ho
  have HAO := Lib.hid (fun k w' (hb : Below w.heap.size w w') => allOf_any [a] A c B k w' (by show 1 ≤ _; decide) (hx.below (hb.mono hB)) (Nat.le_trans hB hb.size))
  clear hn ho hx
  go_enter Tryz.func44, Tryz.ntmps44
  go_wp2_with fail
  refine (HAO.out 2 w (Below.refl _ _)).mono ?_
  rw [HN.out]
  rintro e w1 ⟨rfl, hbw⟩
  cases n
  · go_wp2_with fail
    refine (HAO.out 6 w1 hbw).mono ?_
    rw [HO.out]
    rintro e w2 ⟨rfl, hb2⟩
    have hbw := hbw.trans (hb2.mono hbw.size)
    clear hb2
    go_wp2_with fail
    refine (HAO.out 7 w2 hbw).mono ?_
    rintro e w5 ⟨rfl, hb5⟩
    have hbw := hbw.trans (hb5.mono hbw.size)
    clear hb5
    go_wp2_with (first | (go_at_call 74; refine (fits_any _ _ _).mono ?_; rintro e9 w9 ⟨rfl, rfl⟩))
    go_ret2
    exact ⟨ret_val (by have h1 := HN.out; have h2 := HO.out; simp_all [opT]), hbw⟩
  · go_wp2_with fail
    refine (HAO.out 7 w1 hbw).mono ?_
    rintro e w5 ⟨rfl, hb5⟩
    have hbw := hbw.trans (hb5.mono hbw.size)
    clear hb5
    go_wp2_with (first | (go_at_call 74; refine (fits_any _ _ _).mono ?_; rintro e9 w9 ⟨rfl, rfl⟩))
    go_ret2
    exact ⟨ret_val (by have h1 := HN.out; have h2 := HO.out; simp_all [opT]), hbw⟩
set_option maxHeartbeats 2000000 in
set_option maxRecDepth 100000 in
theorem opType_2 (a : Int) (r : List Int) (A : Option Addr) (c B : Nat) (w : World) (hk : (a :: r).length ≤ maxLen) (hx : Reads w B 1 A (a :: r).length (numV .i64 (a :: r))) (hB : B ≤ w.heap.size) :
    Calls Tryz.prog 44 #[.int .i64 2, .slice A (a :: r).length c] w fun e w' => e = .returned (.tuple #[.int .i64 (opT 2 (a :: r)).1, .int .i64 (opT 2 (a :: r)).2]) ∧ Below w.heap.size w w' := by
  obtain ⟨n, hn⟩ : ∃ n, allB (a :: r) 2 = n := ⟨_, rfl⟩
  obtain ⟨o, ho⟩ : ∃ o, allB (a :: r) 6 = o := ⟨_, rfl⟩
  have HN := Lib.hid hn
  have HO := Lib.hid ho
  have HAO := Lib.hid (fun k w' (hb : Below w.heap.size w w') => allOf_any (a :: r) A c B k w' (hk) (hx.below (hb.mono hB)) (Nat.le_trans hB hb.size))
  have hl0 : 0 < (a :: r).length := by simp
  clear hn ho hx
  go_enter Tryz.func44, Tryz.ntmps44
  go_wp2_with fail
  refine (HAO.out 2 w (Below.refl _ _)).mono ?_
  rw [HN.out]
  rintro e w1 ⟨rfl, hbw⟩
  cases n
  · go_wp2_with fail
    refine (HAO.out 6 w1 hbw).mono ?_
    rw [HO.out]
    rintro e w2 ⟨rfl, hb2⟩
    have hbw := hbw.trans (hb2.mono hbw.size)
    clear hb2
    go_wp2_with fail
    refine (HAO.out 7 w2 hbw).mono ?_
    rintro e w5 ⟨rfl, hb5⟩
    have hbw := hbw.trans (hb5.mono hbw.size)
    clear hb5
    go_wp2_with (first | (go_at_call 74; refine (fits_any _ _ _).mono ?_; rintro e9 w9 ⟨rfl, rfl⟩))
    go_ret2
    exact ⟨ret_val (by have h1 := HN.out; have h2 := HO.out; simp_all [opT]), hbw⟩
  · go_wp2_with fail
    refine (HAO.out 7 w1 hbw).mono ?_
    rintro e w5 ⟨rfl, hb5⟩
    have hbw := hbw.trans (hb5.mono hbw.size)
    clear hb5
    go_wp2_with (first | (go_at_call 74; refine (fits_any _ _ _).mono ?_; rintro e9 w9 ⟨rfl, rfl⟩))
    go_ret2
    exact ⟨ret_val (by have h1 := HN.out; have h2 := HO.out; simp_all [opT]), hbw⟩
set_option maxHeartbeats 2000000 in
set_option maxRecDepth 100000 in
theorem opType_3 (a : Int) (r : List Int) (A : Option Addr) (c B : Nat) (w : World) (hk : (a :: r).length ≤ maxLen) (hx : Reads w B 1 A (a :: r).length (numV .i64 (a :: r))) (hB : B ≤ w.heap.size) :
    Calls Tryz.prog 44 #[.int .i64 3, .slice A (a :: r).length c] w fun e w' => e = .returned (.tuple #[.int .i64 (opT 3 (a :: r)).1, .int .i64 (opT 3 (a :: r)).2]) ∧ Below w.heap.size w w' := by
  obtain ⟨n, hn⟩ : ∃ n, allB (a :: r) 2 = n := ⟨_, rfl⟩
  obtain ⟨o, ho⟩ : ∃ o, allB (a :: r) 6 = o := ⟨_, rfl⟩
  have HN := Lib.hid hn
  have HO := Lib.hid ho
  have HAO := Lib.hid (fun k w' (hb : Below w.heap.size w w') => allOf_any (a :: r) A c B k w' (hk) (hx.below (hb.mono hB)) (Nat.le_trans hB hb.size))
  have hl0 : 0 < (a :: r).length := by simp
  clear hn ho hx
  go_enter Tryz.func44, Tryz.ntmps44
  go_wp2_with fail
  refine (HAO.out 2 w (Below.refl _ _)).mono ?_
  rw [HN.out]
  rintro e w1 ⟨rfl, hbw⟩
  cases n
  · go_wp2_with fail
    refine (HAO.out 6 w1 hbw).mono ?_
    rw [HO.out]
    rintro e w2 ⟨rfl, hb2⟩
    have hbw := hbw.trans (hb2.mono hbw.size)
    clear hb2
    go_wp2_with fail
    refine (HAO.out 7 w2 hbw).mono ?_
    rintro e w5 ⟨rfl, hb5⟩
    have hbw := hbw.trans (hb5.mono hbw.size)
    clear hb5
    go_wp2_with (first | (go_at_call 74; refine (fits_any _ _ _).mono ?_; rintro e9 w9 ⟨rfl, rfl⟩))
    go_ret2
    exact ⟨ret_val (by have h1 := HN.out; have h2 := HO.out; simp_all [opT]), hbw⟩
  · go_wp2_with fail
    refine (HAO.out 7 w1 hbw).mono ?_
    rintro e w5 ⟨rfl, hb5⟩
    have hbw := hbw.trans (hb5.mono hbw.size)
    clear hb5
    go_wp2_with (first | (go_at_call 74; refine (fits_any _ _ _).mono ?_; rintro e9 w9 ⟨rfl, rfl⟩))
    go_ret2
    exact ⟨ret_val (by have h1 := HN.out; have h2 := HO.out; simp_all [opT]), hbw⟩
set_option maxHeartbeats 2000000 in
set_option maxRecDepth 100000 in
theorem opType_6 (a b : Int) (A : Option Addr) (c B : Nat) (w : World) (hx : Reads w B 1 A 2 (numV .i64 [a, b])) (hB : B ≤ w.heap.size) :
    Calls Tryz.prog 44 #[.int .i64 6, .slice A 2 c] w fun e w' => e = .returned (.tuple #[.int .i64 (opT 6 [a, b]).1, .int .i64 (opT 6 [a, b]).2]) ∧ Below w.heap.size w w' := by
  obtain ⟨n, hn⟩ : ∃ n, allB [a, b] 2 = n := ⟨_, rfl⟩
  obtain ⟨o, ho⟩ : ∃ o, allB [a, b] 6 = o := ⟨_, rfl⟩
  have HN := Lib.hid hn
  have HO := Lib.hid ho
  have HAO := Lib.hid (fun k w' (hb : Below w.heap.size w w') => allOf_any [a, b] A c B k w' (by show 2 ≤ _; decide) (hx.below (hb.mono hB)) (Nat.le_trans hB hb.size))
  clear hn ho hx
  go_enter Tryz.func44, Tryz.ntmps44
  go_wp2_with fail
  refine (HAO.out 2 w (Below.refl _ _)).mono ?_
  rw [HN.out]
  rintro e w1 ⟨rfl, hbw⟩
  cases n
  · go_wp2_with fail
    refine (HAO.out 6 w1 hbw).mono ?_
    rw [HO.out]
    rintro e w2 ⟨rfl, hb2⟩
    have hbw := hbw.trans (hb2.mono hbw.size)
    clear hb2
    go_wp2_with (first | (go_at_call 74; refine (fits_any _ _ _).mono ?_; rintro e9 w9 ⟨rfl, rfl⟩))
    all_goals
      go_ret2
      exact ⟨ret_val (by have h1 := HN.out; have h2 := HO.out; simp_all [opT]), hbw⟩
  · go_wp2_with (first | (go_at_call 74; refine (fits_any _ _ _).mono ?_; rintro e9 w9 ⟨rfl, rfl⟩))
    all_goals
      go_ret2
      exact ⟨ret_val (by have h1 := HN.out; have h2 := HO.out; simp_all [opT]), hbw⟩
set_option maxHeartbeats 2000000 in
set_option maxRecDepth 100000 in
theorem opType_7 (a b : Int) (A : Option Addr) (c B : Nat) (w : World) (hx : Reads w B 1 A 2 (numV .i64 [a, b])) (hB : B ≤ w.heap.size) :
    Calls Tryz.prog 44 #[.int .i64 7, .slice A 2 c] w fun e w' => e = .returned (.tuple #[.int .i64 (opT 7 [a, b]).1, .int .i64 (opT 7 [a, b]).2]) ∧ Below w.heap.size w w' := by
  obtain ⟨n, hn⟩ : ∃ n, allB [a, b] 2 = n := ⟨_, rfl⟩
  obtain ⟨o, ho⟩ : ∃ o, allB [a, b] 6 = o := ⟨_, rfl⟩
  have HN := Lib.hid hn
  have HO := Lib.hid ho
  have HAO := Lib.hid (fun k w' (hb : Below w.heap.size w w') => allOf_any [a, b] A c B k w' (by show 2 ≤ _; decide) (hx.below (hb.mono hB)) (Nat.le_trans hB hb.size))
  clear hn ho hx
  go_enter Tryz.func44, Tryz.ntmps44
  go_wp2_with fail
  refine (HAO.out 2 w (Below.refl _ _)).mono ?_
  rw [HN.out]
  rintro e w1 ⟨rfl, hbw⟩
  cases n
  · go_wp2_with fail
    refine (HAO.out 6 w1 hbw).mono ?_
    rw [HO.out]
    rintro e w2 ⟨rfl, hb2⟩
    have hbw := hbw.trans (hb2.mono hbw.size)
    clear hb2
    go_wp2_with (first | (go_at_call 74; refine (fits_any _ _ _).mono ?_; rintro e9 w9 ⟨rfl, rfl⟩))
    all_goals
      go_ret2
      exact ⟨ret_val (by have h1 := HN.out; have h2 := HO.out; simp_all [opT]), hbw⟩
  · go_wp2_with (first | (go_at_call 74; refine (fits_any _ _ _).mono ?_; rintro e9 w9 ⟨rfl, rfl⟩))
    all_goals
      go_ret2
      exact ⟨ret_val (by have h1 := HN.out; have h2 := HO.out; simp_all [opT]), hbw⟩
set_option maxHeartbeats 2000000 in
set_option maxRecDepth 100000 in
theorem opType_8 (a b : Int) (A : Option Addr) (c B : Nat) (w : World) (hx : Reads w B 1 A 2 (numV .i64 [a, b])) (hB : B ≤ w.heap.size) :
    Calls Tryz.prog 44 #[.int .i64 8, .slice A 2 c] w fun e w' => e = .returned (.tuple #[.int .i64 (opT 8 [a, b]).1, .int .i64 (opT 8 [a, b]).2]) ∧ Below w.heap.size w w' := by
  obtain ⟨n, hn⟩ : ∃ n, allB [a, b] 2 = n := ⟨_, rfl⟩
  obtain ⟨o, ho⟩ : ∃ o, allB [a, b] 6 = o := ⟨_, rfl⟩
  have HN := Lib.hid hn
  have HO := Lib.hid ho
  have HAO := Lib.hid (fun k w' (hb : Below w.heap.size w w') => allOf_any [a, b] A c B k w' (by show 2 ≤ _; decide) (hx.below (hb.mono hB)) (Nat.le_trans hB hb.size))
  clear hn ho hx
  go_enter Tryz.func44, Tryz.ntmps44
  go_wp2_with fail
  refine (HAO.out 2 w (Below.refl _ _)).mono ?_
  rw [HN.out]
  rintro e w1 ⟨rfl, hbw⟩
  cases n
  · go_wp2_with fail
    refine (HAO.out 6 w1 hbw).mono ?_
    rw [HO.out]
    rintro e w2 ⟨rfl, hb2⟩
    have hbw := hbw.trans (hb2.mono hbw.size)
    clear hb2
    go_wp2_with (first | (go_at_call 74; refine (fits_any _ _ _).mono ?_; rintro e9 w9 ⟨rfl, rfl⟩))
    all_goals
      go_ret2
      exact ⟨ret_val (by have h1 := HN.out; have h2 := HO.out; simp_all [opT]), hbw⟩
  · go_wp2_with (first | (go_at_call 74; refine (fits_any _ _ _).mono ?_; rintro e9 w9 ⟨rfl, rfl⟩))
    all_goals
      go_ret2
      exact ⟨ret_val (by have h1 := HN.out; have h2 := HO.out; simp_all [opT]), hbw⟩
set_option maxHeartbeats 2000000 in
set_option maxRecDepth 100000 in
theorem opType_9 (a b : Int) (A : Option Addr) (c B : Nat) (w : World) (hx : Reads w B 1 A 2 (numV .i64 [a, b])) (hB : B ≤ w.heap.size) :
    Calls Tryz.prog 44 #[.int .i64 9, .slice A 2 c] w fun e w' => e = .returned (.tuple #[.int .i64 (opT 9 [a, b]).1, .int .i64 (opT 9 [a, b]).2]) ∧ Below w.heap.size w w' := by
  obtain ⟨n, hn⟩ : ∃ n, allB [a, b] 2 = n := ⟨_, rfl⟩
  obtain ⟨o, ho⟩ : ∃ o, allB [a, b] 6 = o := ⟨_, rfl⟩
  have HN := Lib.hid hn
  have HO := Lib.hid ho
  have HAO := Lib.hid (fun k w' (hb : Below w.heap.size w w') => allOf_any [a, b] A c B k w' (by show 2 ≤ _; decide) (hx.below (hb.mono hB)) (Nat.le_trans hB hb.size))
  clear hn ho hx
  go_enter Tryz.func44, Tryz.ntmps44
  go_wp2_with fail
  refine (HAO.out 2 w (Below.refl _ _)).mono ?_
  rw [HN.out]
  rintro e w1 ⟨rfl, hbw⟩
  cases n
  · go_wp2_with fail
    refine (HAO.out 6 w1 hbw).mono ?_
    rw [HO.out]
    rintro e w2 ⟨rfl, hb2⟩
    have hbw := hbw.trans (hb2.mono hbw.size)
    clear hb2
    go_wp2_with (first | (go_at_call 74; refine (fits_any _ _ _).mono ?_; rintro e9 w9 ⟨rfl, rfl⟩))
    all_goals
      go_ret2
      exact ⟨ret_val (by have h1 := HN.out; have h2 := HO.out; simp_all [opT]), hbw⟩
  · go_wp2_with (first | (go_at_call 74; refine (fits_any _ _ _).mono ?_; rintro e9 w9 ⟨rfl, rfl⟩))
    all_goals
      go_ret2
      exact ⟨ret_val (by have h1 := HN.out; have h2 := HO.out; simp_all [opT]), hbw⟩
set_option maxHeartbeats 2000000 in
set_option maxRecDepth 100000 in
theorem opType_12 (a : Int) (A : Option Addr) (c B : Nat) (w : World) (hx : Reads w B 1 A 1 (numV .i64 [a])) (hB : B ≤ w.heap.size) :
    Calls Tryz.prog 44 #[.int .i64 12, .slice A 1 c] w fun e w' => e = .returned (.tuple #[.int .i64 (opT 12 [a]).1, .int .i64 (opT 12 [a]).2]) ∧ Below w.heap.size w w' := by
  obtain ⟨n, hn⟩ : ∃ n, allB [a] 2 = n := ⟨_, rfl⟩
  obtain ⟨o, ho⟩ : ∃ o, allB [a] 6 = o := ⟨_, rfl⟩
  have HN := Lib.hid hn
  have HO := Lib.hid ho
  have HAO := Lib.hid (fun k w' (hb : Below w.heap.size w w') => allOf_any [a] A c B k w' (by show 1 ≤ _; decide) (hx.below (hb.mono hB)) (Nat.le_trans hB hb.size))
  clear hn ho hx
  go_enter Tryz.func44, Tryz.ntmps44
  go_wp2_with fail
  refine (HAO.out 2 w (Below.refl _ _)).mono ?_
  rw [HN.out]
  rintro e w1 ⟨rfl, hbw⟩
  cases n
  · go_wp2_with fail
    refine (HAO.out 6 w1 hbw).mono ?_
    rw [HO.out]
    rintro e w2 ⟨rfl, hb2⟩
    have hbw := hbw.trans (hb2.mono hbw.size)
    clear hb2
    go_wp2_with (first | (go_at_call 74; refine (fits_any _ _ _).mono ?_; rintro e9 w9 ⟨rfl, rfl⟩))
    all_goals
      go_ret2
      exact ⟨ret_val (by have h1 := HN.out; have h2 := HO.out; simp_all [opT]), hbw⟩
  · go_wp2_with (first | (go_at_call 74; refine (fits_any _ _ _).mono ?_; rintro e9 w9 ⟨rfl, rfl⟩))
    all_goals
      go_ret2
      exact ⟨ret_val (by have h1 := HN.out; have h2 := HO.out; simp_all [opT]), hbw⟩
set_option maxHeartbeats 2000000 in
set_option maxRecDepth 100000 in
theorem opType_13 (a : Int) (A : Option Addr) (c B : Nat) (w : World) (hx : Reads w B 1 A 1 (numV .i64 [a])) (hB : B ≤ w.heap.size) :
    Calls Tryz.prog 44 #[.int .i64 13, .slice A 1 c] w fun e w' => e = .returned (.tuple #[.int .i64 (opT 13 [a]).1, .int .i64 (opT 13 [a]).2]) ∧ Below w.heap.size w w' := by
  obtain ⟨n, hn⟩ : ∃ n, allB [a] 2 = n := ⟨_, rfl⟩
  obtain ⟨o, ho⟩ : ∃ o, allB [a] 6 = o := ⟨_, rfl⟩
  have HN := Lib.hid hn
  have HO := Lib.hid ho
  have HAO := Lib.hid (fun k w' (hb : Below w.heap.size w w') => allOf_any [a] A c B k w' (by show 1 ≤ _; decide) (hx.below (hb.mono hB)) (Nat.le_trans hB hb.size))
  clear hn ho hx
  go_enter Tryz.func44, Tryz.ntmps44
  go_wp2_with fail
  refine (HAO.out 2 w (Below.refl _ _)).mono ?_
  rw [HN.out]
  rintro e w1 ⟨rfl, hbw⟩
  cases n
  · go_wp2_with fail
    refine (HAO.out 6 w1 hbw).mono ?_
    rw [HO.out]
    rintro e w2 ⟨rfl, hb2⟩
    have hbw := hbw.trans (hb2.mono hbw.size)
    clear hb2
    go_wp2_with (first | (go_at_call 74; refine (fits_any _ _ _).mono ?_; rintro e9 w9 ⟨rfl, rfl⟩))
    all_goals
      go_ret2
      exact ⟨ret_val (by have h1 := HN.out; have h2 := HO.out; simp_all [opT]), hbw⟩
  · go_wp2_with (first | (go_at_call 74; refine (fits_any _ _ _).mono ?_; rintro e9 w9 ⟨rfl, rfl⟩))
    all_goals
      go_ret2
      exact ⟨ret_val (by have h1 := HN.out; have h2 := HO.out; simp_all [opT]), hbw⟩
set_option maxHeartbeats 2000000 in
set_option maxRecDepth 100000 in
theorem opType_14 (a : Int) (A : Option Addr) (c B : Nat) (w : World) (hx : Reads w B 1 A 1 (numV .i64 [a])) (hB : B ≤ w.heap.size) :
    Calls Tryz.prog 44 #[.int .i64 14, .slice A 1 c] w fun e w' => e = .returned (.tuple #[.int .i64 (opT 14 [a]).1, .int .i64 (opT 14 [a]).2]) ∧ Below w.heap.size w w' := by
  obtain ⟨n, hn⟩ : ∃ n, allB [a] 2 = n := ⟨_, rfl⟩
  obtain ⟨o, ho⟩ : ∃ o, allB [a] 6 = o := ⟨_, rfl⟩
  have HN := Lib.hid hn
  have HO := Lib.hid ho
  have HAO := Lib.hid (fun k w' (hb : Below w.heap.size w w') => allOf_any [a] A c B k w' (by show 1 ≤ _; decide) (hx.below (hb.mono hB)) (Nat.le_trans hB hb.size))
  clear hn ho hx
  go_enter Tryz.func44, Tryz.ntmps44
  go_wp2_with fail
  refine (HAO.out 2 w (Below.refl _ _)).mono ?_
  rw [HN.out]
  rintro e w1 ⟨rfl, hbw⟩
  cases n
  · go_wp2_with fail
    refine (HAO.out 6 w1 hbw).mono ?_
    rw [HO.out]
    rintro e w2 ⟨rfl, hb2⟩
    have hbw := hbw.trans (hb2.mono hbw.size)
    clear hb2
    go_wp2_with (first | (go_at_call 74; refine (fits_any _ _ _).mono ?_; rintro e9 w9 ⟨rfl, rfl⟩))
    all_goals
      go_ret2
      exact ⟨ret_val (by have h1 := HN.out; have h2 := HO.out; simp_all [opT]), hbw⟩
  · go_wp2_with (first | (go_at_call 74; refine (fits_any _ _ _).mono ?_; rintro e9 w9 ⟨rfl, rfl⟩))
    all_goals
      go_ret2
      exact ⟨ret_val (by have h1 := HN.out; have h2 := HO.out; simp_all [opT]), hbw⟩
end Go.Proofs.YtpanbeoelbhhgaaGreatDoor
namespace Go.Proofs.YtpanbeoelbhhgaaGreatDoor
open Go.RowKit
attribute [local go_sem ↓] Go.wp_at_zero Go.wp_at_succ
set_option maxHeartbeats 2000000 in
set_option maxRecDepth 100000 in
theorem opType_15 (a b : Int) (A : Option Addr) (c B : Nat) (w : World) (hx : Reads w B 1 A 2 (numV .i64 [a, b])) (hB : B ≤ w.heap.size) :
    Calls Tryz.prog 44 #[.int .i64 15, .slice A 2 c] w fun e w' => e = .returned (.tuple #[.int .i64 (opT 15 [a, b]).1, .int .i64 (opT 15 [a, b]).2]) ∧ Below w.heap.size w w' := by
  obtain ⟨n, hn⟩ : ∃ n, allB [a, b] 2 = n := ⟨_, rfl⟩
  obtain ⟨o, ho⟩ : ∃ o, allB [a, b] 6 = o := ⟨_, rfl⟩
  have HN := Lib.hid hn
  have HO := Lib.hid ho
  have HAO := Lib.hid (fun k w' (hb : Below w.heap.size w w') => allOf_any [a, b] A c B k w' (by show 2 ≤ _; decide) (hx.below (hb.mono hB)) (Nat.le_trans hB hb.size))
  clear hn ho hx
  go_enter Tryz.func44, Tryz.ntmps44
  go_wp2_with fail
  refine (HAO.out 2 w (Below.refl _ _)).mono ?_
  rw [HN.out]
  rintro e w1 ⟨rfl, hbw⟩
  cases n
  · go_wp2_with fail
    refine (HAO.out 6 w1 hbw).mono ?_
    rw [HO.out]
    rintro e w2 ⟨rfl, hb2⟩
    have hbw := hbw.trans (hb2.mono hbw.size)
    clear hb2
    go_wp2_with (first | (go_at_call 74; refine (fits_any _ _ _).mono ?_; rintro e9 w9 ⟨rfl, rfl⟩))
    all_goals
      go_ret2
      exact ⟨ret_val (by have h1 := HN.out; have h2 := HO.out; simp_all [opT]), hbw⟩
  · go_wp2_with (first | (go_at_call 74; refine (fits_any _ _ _).mono ?_; rintro e9 w9 ⟨rfl, rfl⟩))
    all_goals
      go_ret2
      exact ⟨ret_val (by have h1 := HN.out; have h2 := HO.out; simp_all [opT]), hbw⟩
set_option maxHeartbeats 2000000 in
set_option maxRecDepth 100000 in
theorem opType_16 (a b : Int) (A : Option Addr) (c B : Nat) (w : World) (hx : Reads w B 1 A 2 (numV .i64 [a, b])) (hB : B ≤ w.heap.size) :
    Calls Tryz.prog 44 #[.int .i64 16, .slice A 2 c] w fun e w' => e = .returned (.tuple #[.int .i64 (opT 16 [a, b]).1, .int .i64 (opT 16 [a, b]).2]) ∧ Below w.heap.size w w' := by
  obtain ⟨n, hn⟩ : ∃ n, allB [a, b] 2 = n := ⟨_, rfl⟩
  obtain ⟨o, ho⟩ : ∃ o, allB [a, b] 6 = o := ⟨_, rfl⟩
  have HN := Lib.hid hn
  have HO := Lib.hid ho
  have HAO := Lib.hid (fun k w' (hb : Below w.heap.size w w') => allOf_any [a, b] A c B k w' (by show 2 ≤ _; decide) (hx.below (hb.mono hB)) (Nat.le_trans hB hb.size))
  clear hn ho hx
  go_enter Tryz.func44, Tryz.ntmps44
  go_wp2_with fail
  refine (HAO.out 2 w (Below.refl _ _)).mono ?_
  rw [HN.out]
  rintro e w1 ⟨rfl, hbw⟩
  cases n
  · go_wp2_with fail
    refine (HAO.out 6 w1 hbw).mono ?_
    rw [HO.out]
    rintro e w2 ⟨rfl, hb2⟩
    have hbw := hbw.trans (hb2.mono hbw.size)
    clear hb2
    go_wp2_with (first | (go_at_call 74; refine (fits_any _ _ _).mono ?_; rintro e9 w9 ⟨rfl, rfl⟩))
    all_goals
      go_ret2
      exact ⟨ret_val (by have h1 := HN.out; have h2 := HO.out; simp_all [opT]), hbw⟩
  · go_wp2_with (first | (go_at_call 74; refine (fits_any _ _ _).mono ?_; rintro e9 w9 ⟨rfl, rfl⟩))
    all_goals
      go_ret2
      exact ⟨ret_val (by have h1 := HN.out; have h2 := HO.out; simp_all [opT]), hbw⟩
set_option maxHeartbeats 2000000 in
set_option maxRecDepth 100000 in
theorem opType_17 (a b : Int) (A : Option Addr) (c B : Nat) (w : World) (hx : Reads w B 1 A 2 (numV .i64 [a, b])) (hB : B ≤ w.heap.size) :
    Calls Tryz.prog 44 #[.int .i64 17, .slice A 2 c] w fun e w' => e = .returned (.tuple #[.int .i64 (opT 17 [a, b]).1, .int .i64 (opT 17 [a, b]).2]) ∧ Below w.heap.size w w' := by
  obtain ⟨n, hn⟩ : ∃ n, allB [a, b] 2 = n := ⟨_, rfl⟩
  obtain ⟨o, ho⟩ : ∃ o, allB [a, b] 6 = o := ⟨_, rfl⟩
  have HN := Lib.hid hn
  have HO := Lib.hid ho
  have HAO := Lib.hid (fun k w' (hb : Below w.heap.size w w') => allOf_any [a, b] A c B k w' (by show 2 ≤ _; decide) (hx.below (hb.mono hB)) (Nat.le_trans hB hb.size))
  clear hn ho hx
  go_enter Tryz.func44, Tryz.ntmps44
  go_wp2_with fail
  refine (HAO.out 2 w (Below.refl _ _)).mono ?_
  rw [HN.out]
  rintro e w1 ⟨rfl, hbw⟩
  cases n
  · go_wp2_with fail
    refine (HAO.out 6 w1 hbw).mono ?_
    rw [HO.out]
    rintro e w2 ⟨rfl, hb2⟩
    have hbw := hbw.trans (hb2.mono hbw.size)
    clear hb2
    go_wp2_with (first | (go_at_call 74; refine (fits_any _ _ _).mono ?_; rintro e9 w9 ⟨rfl, rfl⟩))
    all_goals
      go_ret2
      exact ⟨ret_val (by have h1 := HN.out; have h2 := HO.out; simp_all [opT]), hbw⟩
  · go_wp2_with (first | (go_at_call 74; refine (fits_any _ _ _).mono ?_; rintro e9 w9 ⟨rfl, rfl⟩))
    all_goals
      go_ret2
      exact ⟨ret_val (by have h1 := HN.out; have h2 := HO.out; simp_all [opT]), hbw⟩
set_option maxHeartbeats 2000000 in
set_option maxRecDepth 100000 in
theorem opType_18 (a b : Int) (A : Option Addr) (c B : Nat) (w : World) (hx : Reads w B 1 A 2 (numV .i64 [a, b])) (hB : B ≤ w.heap.size) :
    Calls Tryz.prog 44 #[.int .i64 18, .slice A 2 c] w fun e w' => e = .returned (.tuple #[.int .i64 (opT 18 [a, b]).1, .int .i64 (opT 18 [a, b]).2]) ∧ Below w.heap.size w w' := by
  obtain ⟨n, hn⟩ : ∃ n, allB [a, b] 2 = n := ⟨_, rfl⟩
  obtain ⟨o, ho⟩ : ∃ o, allB [a, b] 6 = o := ⟨_, rfl⟩
  have HN := Lib.hid hn
  have HO := Lib.hid ho
  have HAO := Lib.hid (fun k w' (hb : Below w.heap.size w w') => allOf_any [a, b] A c B k w' (by show 2 ≤ _; decide) (hx.below (hb.mono hB)) (Nat.le_trans hB hb.size))
  clear hn ho hx
  go_enter Tryz.func44, Tryz.ntmps44
  go_wp2_with fail
  refine (HAO.out 2 w (Below.refl _ _)).mono ?_
  rw [HN.out]
  rintro e w1 ⟨rfl, hbw⟩
  cases n
  · go_wp2_with fail
    refine (HAO.out 6 w1 hbw).mono ?_
    rw [HO.out]
    rintro e w2 ⟨rfl, hb2⟩
    have hbw := hbw.trans (hb2.mono hbw.size)
    clear hb2
    go_wp2_with (first | (go_at_call 74; refine (fits_any _ _ _).mono ?_; rintro e9 w9 ⟨rfl, rfl⟩))
    all_goals
      go_ret2
      exact ⟨ret_val (by have h1 := HN.out; have h2 := HO.out; simp_all [opT]), hbw⟩
  · go_wp2_with (first | (go_at_call 74; refine (fits_any _ _ _).mono ?_; rintro e9 w9 ⟨rfl, rfl⟩))
    all_goals
      go_ret2
      exact ⟨ret_val (by have h1 := HN.out; have h2 := HO.out; simp_all [opT]), hbw⟩
set_option maxHeartbeats 2000000 in
set_option maxRecDepth 100000 in
theorem opType_19 (a b : Int) (A : Option Addr) (c B : Nat) (w : World) (hx : Reads w B 1 A 2 (numV .i64 [a, b])) (hB : B ≤ w.heap.size) :
    Calls Tryz.prog 44 #[.int .i64 19, .slice A 2 c] w fun e w' => e = .returned (.tuple #[.int .i64 (opT 19 [a, b]).1, .int .i64 (opT 19 [a, b]).2]) ∧ Below w.heap.size w w' := by
  obtain ⟨n, hn⟩ : ∃ n, allB [a, b] 2 = n := ⟨_, rfl⟩
  obtain ⟨o, ho⟩ : ∃ o, allB [a, b] 6 = o := ⟨_, rfl⟩
  have HN := Lib.hid hn
  have HO := Lib.hid ho
  have HAO := Lib.hid (fun k w' (hb : Below w.heap.size w w') => allOf_any [a, b] A c B k w' (by show 2 ≤ _; decide) (hx.below (hb.mono hB)) (Nat.le_trans hB hb.size))
  clear hn ho hx
  go_enter Tryz.func44, Tryz.ntmps44
  go_wp2_with fail
  refine (HAO.out 2 w (Below.refl _ _)).mono ?_
  rw [HN.out]
  rintro e w1 ⟨rfl, hbw⟩
  cases n
  · go_wp2_with fail
    refine (HAO.out 6 w1 hbw).mono ?_
    rw [HO.out]
    rintro e w2 ⟨rfl, hb2⟩
    have hbw := hbw.trans (hb2.mono hbw.size)
    clear hb2
    go_wp2_with (first | (go_at_call 74; refine (fits_any _ _ _).mono ?_; rintro e9 w9 ⟨rfl, rfl⟩))
    all_goals
      go_ret2
      exact ⟨ret_val (by have h1 := HN.out; have h2 := HO.out; simp_all [opT]), hbw⟩
  · go_wp2_with (first | (go_at_call 74; refine (fits_any _ _ _).mono ?_; rintro e9 w9 ⟨rfl, rfl⟩))
    all_goals
      go_ret2
      exact ⟨ret_val (by have h1 := HN.out; have h2 := HO.out; simp_all [opT]), hbw⟩
set_option maxHeartbeats 2000000 in
set_option maxRecDepth 100000 in
theorem opType_20 (a : Int) (A : Option Addr) (c B : Nat) (w : World) (hx : Reads w B 1 A 1 (numV .i64 [a])) (hB : B ≤ w.heap.size) :
    Calls Tryz.prog 44 #[.int .i64 20, .slice A 1 c] w fun e w' => e = .returned (.tuple #[.int .i64 (opT 20 [a]).1, .int .i64 (opT 20 [a]).2]) ∧ Below w.heap.size w w' := by
  obtain ⟨n, hn⟩ : ∃ n, allB [a] 2 = n := ⟨_, rfl⟩
  obtain ⟨o, ho⟩ : ∃ o, allB [a] 6 = o := ⟨_, rfl⟩
  have HN := Lib.hid hn
  have HO := Lib.hid ho
  have HAO := Lib.hid (fun k w' (hb : Below w.heap.size w w') => allOf_any [a] A c B k w' (by show 1 ≤ _; decide) (hx.below (hb.mono hB)) (Nat.le_trans hB hb.size))
  clear hn ho hx
  go_enter Tryz.func44, Tryz.ntmps44
  go_wp2_with fail
  refine (HAO.out 2 w (Below.refl _ _)).mono ?_
  rw [HN.out]
  rintro e w1 ⟨rfl, hbw⟩
  cases n
  · go_wp2_with fail
    refine (HAO.out 6 w1 hbw).mono ?_
    rw [HO.out]
    rintro e w2 ⟨rfl, hb2⟩
    have hbw := hbw.trans (hb2.mono hbw.size)
    clear hb2
    go_wp2_with (first | (go_at_call 74; refine (fits_any _ _ _).mono ?_; rintro e9 w9 ⟨rfl, rfl⟩))
    all_goals
      go_ret2
      exact ⟨ret_val (by have h1 := HN.out; have h2 := HO.out; simp_all [opT]), hbw⟩
  · go_wp2_with (first | (go_at_call 74; refine (fits_any _ _ _).mono ?_; rintro e9 w9 ⟨rfl, rfl⟩))
    all_goals
      go_ret2
      exact ⟨ret_val (by have h1 := HN.out; have h2 := HO.out; simp_all [opT]), hbw⟩
set_option maxHeartbeats 2000000 in
set_option maxRecDepth 100000 in
theorem opType_21 (a : Int) (A : Option Addr) (c B : Nat) (w : World) (hx : Reads w B 1 A 1 (numV .i64 [a])) (hB : B ≤ w.heap.size) :
    Calls Tryz.prog 44 #[.int .i64 21, .slice A 1 c] w fun e w' => e = .returned (.tuple #[.int .i64 (opT 21 [a]).1, .int .i64 (opT 21 [a]).2]) ∧ Below w.heap.size w w' := by
  obtain ⟨n, hn⟩ : ∃ n, allB [a] 2 = n := ⟨_, rfl⟩
  obtain ⟨o, ho⟩ : ∃ o, allB [a] 6 = o := ⟨_, rfl⟩
  have HN := Lib.hid hn
  have HO := Lib.hid ho
  have HAO := Lib.hid (fun k w' (hb : Below w.heap.size w w') => allOf_any [a] A c B k w' (by show 1 ≤ _; decide) (hx.below (hb.mono hB)) (Nat.le_trans hB hb.size))
  clear hn ho hx
  go_enter Tryz.func44, Tryz.ntmps44
  go_wp2_with fail
  refine (HAO.out 2 w (Below.refl _ _)).mono ?_
  rw [HN.out]
  rintro e w1 ⟨rfl, hbw⟩
  cases n
  · go_wp2_with fail
    refine (HAO.out 6 w1 hbw).mono ?_
    rw [HO.out]
    rintro e w2 ⟨rfl, hb2⟩
    have hbw := hbw.trans (hb2.mono hbw.size)
    clear hb2
    go_wp2_with (first | (go_at_call 74; refine (fits_any _ _ _).mono ?_; rintro e9 w9 ⟨rfl, rfl⟩))
    all_goals
      go_ret2
      exact ⟨ret_val (by have h1 := HN.out; have h2 := HO.out; simp_all [opT]), hbw⟩
  · go_wp2_with (first | (go_at_call 74; refine (fits_any _ _ _).mono ?_; rintro e9 w9 ⟨rfl, rfl⟩))
    all_goals
      go_ret2
      exact ⟨ret_val (by have h1 := HN.out; have h2 := HO.out; simp_all [opT]), hbw⟩
set_option maxHeartbeats 2000000 in
set_option maxRecDepth 100000 in
theorem opType_22 (a : Int) (A : Option Addr) (c B : Nat) (w : World) (hx : Reads w B 1 A 1 (numV .i64 [a])) (hB : B ≤ w.heap.size) :
    Calls Tryz.prog 44 #[.int .i64 22, .slice A 1 c] w fun e w' => e = .returned (.tuple #[.int .i64 (opT 22 [a]).1, .int .i64 (opT 22 [a]).2]) ∧ Below w.heap.size w w' := by
  obtain ⟨n, hn⟩ : ∃ n, allB [a] 2 = n := ⟨_, rfl⟩
  obtain ⟨o, ho⟩ : ∃ o, allB [a] 6 = o := ⟨_, rfl⟩
  have HN := Lib.hid hn
  have HO := Lib.hid ho
  have HAO := Lib.hid (fun k w' (hb : Below w.heap.size w w') => allOf_any [a] A c B k w' (by show 1 ≤ _; decide) (hx.below (hb.mono hB)) (Nat.le_trans hB hb.size))
  clear hn ho hx
  go_enter Tryz.func44, Tryz.ntmps44
  go_wp2_with fail
  refine (HAO.out 2 w (Below.refl _ _)).mono ?_
  rw [HN.out]
  rintro e w1 ⟨rfl, hbw⟩
  cases n
  · go_wp2_with fail
    refine (HAO.out 6 w1 hbw).mono ?_
    rw [HO.out]
    rintro e w2 ⟨rfl, hb2⟩
    have hbw := hbw.trans (hb2.mono hbw.size)
    clear hb2
    go_wp2_with (first | (go_at_call 74; refine (fits_any _ _ _).mono ?_; rintro e9 w9 ⟨rfl, rfl⟩))
    all_goals
      go_ret2
      exact ⟨ret_val (by have h1 := HN.out; have h2 := HO.out; simp_all [opT]), hbw⟩
  · go_wp2_with (first | (go_at_call 74; refine (fits_any _ _ _).mono ?_; rintro e9 w9 ⟨rfl, rfl⟩))
    all_goals
      go_ret2
      exact ⟨ret_val (by have h1 := HN.out; have h2 := HO.out; simp_all [opT]), hbw⟩
set_option maxHeartbeats 2000000 in
set_option maxRecDepth 100000 in
theorem opType_23 (a : Int) (A : Option Addr) (c B : Nat) (w : World) (hx : Reads w B 1 A 1 (numV .i64 [a])) (hB : B ≤ w.heap.size) :
    Calls Tryz.prog 44 #[.int .i64 23, .slice A 1 c] w fun e w' => e = .returned (.tuple #[.int .i64 (opT 23 [a]).1, .int .i64 (opT 23 [a]).2]) ∧ Below w.heap.size w w' := by
  obtain ⟨n, hn⟩ : ∃ n, allB [a] 2 = n := ⟨_, rfl⟩
  obtain ⟨o, ho⟩ : ∃ o, allB [a] 6 = o := ⟨_, rfl⟩
  have HN := Lib.hid hn
  have HO := Lib.hid ho
  have HAO := Lib.hid (fun k w' (hb : Below w.heap.size w w') => allOf_any [a] A c B k w' (by show 1 ≤ _; decide) (hx.below (hb.mono hB)) (Nat.le_trans hB hb.size))
  clear hn ho hx
  go_enter Tryz.func44, Tryz.ntmps44
  go_wp2_with fail
  refine (HAO.out 2 w (Below.refl _ _)).mono ?_
  rw [HN.out]
  rintro e w1 ⟨rfl, hbw⟩
  cases n
  · go_wp2_with fail
    refine (HAO.out 6 w1 hbw).mono ?_
    rw [HO.out]
    rintro e w2 ⟨rfl, hb2⟩
    have hbw := hbw.trans (hb2.mono hbw.size)
    clear hb2
    go_wp2_with (first | (go_at_call 74; refine (fits_any _ _ _).mono ?_; rintro e9 w9 ⟨rfl, rfl⟩))
    all_goals
      go_ret2
      exact ⟨ret_val (by have h1 := HN.out; have h2 := HO.out; simp_all [opT]), hbw⟩
  · go_wp2_with (first | (go_at_call 74; refine (fits_any _ _ _).mono ?_; rintro e9 w9 ⟨rfl, rfl⟩))
    all_goals
      go_ret2
      exact ⟨ret_val (by have h1 := HN.out; have h2 := HO.out; simp_all [opT]), hbw⟩
set_option maxHeartbeats 2000000 in
set_option maxRecDepth 100000 in
theorem opType_24 (a : Int) (r : List Int) (A : Option Addr) (c B : Nat) (w : World) (hk : (a :: r).length ≤ maxLen) (hx : Reads w B 1 A (a :: r).length (numV .i64 (a :: r))) (hB : B ≤ w.heap.size) :
    Calls Tryz.prog 44 #[.int .i64 24, .slice A (a :: r).length c] w fun e w' => e = .returned (.tuple #[.int .i64 (opT 24 (a :: r)).1, .int .i64 (opT 24 (a :: r)).2]) ∧ Below w.heap.size w w' := by
  obtain ⟨n, hn⟩ : ∃ n, allB (a :: r) 2 = n := ⟨_, rfl⟩
  obtain ⟨o, ho⟩ : ∃ o, allB (a :: r) 6 = o := ⟨_, rfl⟩
  have HN := Lib.hid hn
  have HO := Lib.hid ho
  have HAO := Lib.hid (fun k w' (hb : Below w.heap.size w w') => allOf_any (a :: r) A c B k w' (hk) (hx.below (hb.mono hB)) (Nat.le_trans hB hb.size))
  obtain ⟨bk, of, rfl, hbk, hcell⟩ := hx.plain (by simp)
  have hc0 : w.cell? ⟨bk, of, none⟩ = some (.int .i64 a) := hcell 0 _ rfl
  have hbw0 : bk < w.heap.size := by omega
  have HC := Lib.hid (hc0)
  clear hcell hc0
  have hl0 : 0 < (a :: r).length := by simp
  clear hn ho hx
  go_enter Tryz.func44, Tryz.ntmps44
  go_wp2_with fail
  refine (HAO.out 2 w (Below.refl _ _)).mono ?_
  rw [HN.out]
  rintro e w1 ⟨rfl, hbw⟩
  cases n
  · go_wp2_with fail
    refine (HAO.out 6 w1 hbw).mono ?_
    rw [HO.out]
    rintro e w2 ⟨rfl, hb2⟩
    have hbw := hbw.trans (hb2.mono hbw.size)
    clear hb2
    have c0 : w2.cell? ⟨bk, of, none⟩ = some (.int .i64 a) := by rw [hbw.cell (by exact hbw0)]; exact HC.out
    go_wp2_with (first | (go_at_call 74; refine (fits_any _ _ _).mono ?_; rintro e9 w9 ⟨rfl, rfl⟩))
    all_goals
      go_ret2
      exact ⟨ret_val (by have h1 := HN.out; have h2 := HO.out; simp_all [opT, kAt]), hbw⟩
  · have c0 : w1.cell? ⟨bk, of, none⟩ = some (.int .i64 a) := by rw [hbw.cell (by exact hbw0)]; exact HC.out
    go_wp2_with (first | (go_at_call 74; refine (fits_any _ _ _).mono ?_; rintro e9 w9 ⟨rfl, rfl⟩))
    all_goals
      go_ret2
      exact ⟨ret_val (by have h1 := HN.out; have h2 := HO.out; simp_all [opT, kAt]), hbw⟩
set_option maxHeartbeats 2000000 in
set_option maxRecDepth 100000 in
theorem opType_25 (a : Int) (r : List Int) (A : Option Addr) (c B : Nat) (w : World) (hk : (a :: r).length ≤ maxLen) (hx : Reads w B 1 A (a :: r).length (numV .i64 (a :: r))) (hB : B ≤ w.heap.size) :
    Calls Tryz.prog 44 #[.int .i64 25, .slice A (a :: r).length c] w fun e w' => e = .returned (.tuple #[.int .i64 (opT 25 (a :: r)).1, .int .i64 (opT 25 (a :: r)).2]) ∧ Below w.heap.size w w' := by
  obtain ⟨n, hn⟩ : ∃ n, allB (a :: r) 2 = n := ⟨_, rfl⟩
  obtain ⟨o, ho⟩ : ∃ o, allB (a :: r) 6 = o := ⟨_, rfl⟩
  have HN := Lib.hid hn
  have HO := Lib.hid ho
  have HAO := Lib.hid (fun k w' (hb : Below w.heap.size w w') => allOf_any (a :: r) A c B k w' (hk) (hx.below (hb.mono hB)) (Nat.le_trans hB hb.size))
  obtain ⟨bk, of, rfl, hbk, hcell⟩ := hx.plain (by simp)
  have hc0 : w.cell? ⟨bk, of, none⟩ = some (.int .i64 a) := hcell 0 _ rfl
  have hbw0 : bk < w.heap.size := by omega
  have HC := Lib.hid (hc0)
  clear hcell hc0
  have hl0 : 0 < (a :: r).length := by simp
  clear hn ho hx
  go_enter Tryz.func44, Tryz.ntmps44
  go_wp2_with fail
  refine (HAO.out 2 w (Below.refl _ _)).mono ?_
  rw [HN.out]
  rintro e w1 ⟨rfl, hbw⟩
  cases n
  · go_wp2_with fail
    refine (HAO.out 6 w1 hbw).mono ?_
    rw [HO.out]
    rintro e w2 ⟨rfl, hb2⟩
    have hbw := hbw.trans (hb2.mono hbw.size)
    clear hb2
    have c0 : w2.cell? ⟨bk, of, none⟩ = some (.int .i64 a) := by rw [hbw.cell (by exact hbw0)]; exact HC.out
    go_wp2_with (first | (go_at_call 74; refine (fits_any _ _ _).mono ?_; rintro e9 w9 ⟨rfl, rfl⟩))
    all_goals
      go_ret2
      exact ⟨ret_val (by have h1 := HN.out; have h2 := HO.out; simp_all [opT, kAt]), hbw⟩
  · have c0 : w1.cell? ⟨bk, of, none⟩ = some (.int .i64 a) := by rw [hbw.cell (by exact hbw0)]; exact HC.out
    go_wp2_with (first | (go_at_call 74; refine (fits_any _ _ _).mono ?_; rintro e9 w9 ⟨rfl, rfl⟩))
    all_goals
      go_ret2
      exact ⟨ret_val (by have h1 := HN.out; have h2 := HO.out; simp_all [opT, kAt]), hbw⟩
end Go.Proofs.YtpanbeoelbhhgaaGreatDoor
namespace Go.Proofs.YtpanbeoelbhhgaaGreatDoor
open Go.RowKit
attribute [local go_sem ↓] Go.wp_at_zero Go.wp_at_succ
set_option maxHeartbeats 2000000 in
set_option maxRecDepth 100000 in
theorem opType_28 (a : Int) (A : Option Addr) (c B : Nat) (w : World) (hx : Reads w B 1 A 1 (numV .i64 [a])) (hB : B ≤ w.heap.size) :
    Calls Tryz.prog 44 #[.int .i64 28, .slice A 1 c] w fun e w' => e = .returned (.tuple #[.int .i64 (opT 28 [a]).1, .int .i64 (opT 28 [a]).2]) ∧ Below w.heap.size w w' := by
  obtain ⟨n, hn⟩ : ∃ n, allB [a] 2 = n := ⟨_, rfl⟩
  obtain ⟨o, ho⟩ : ∃ o, allB [a] 6 = o := ⟨_, rfl⟩
  have HN := Lib.hid hn
  have HO := Lib.hid ho
  have HAO := Lib.hid (fun k w' (hb : Below w.heap.size w w') => allOf_any [a] A c B k w' (by show 1 ≤ _; decide) (hx.below (hb.mono hB)) (Nat.le_trans hB hb.size))
  obtain ⟨bk, of, rfl, hbk, hcell⟩ := hx.plain (by decide)
  have hc0 : w.cell? ⟨bk, of, none⟩ = some (.int .i64 a) := hcell 0 _ rfl
  have hbw0 : bk < w.heap.size := by omega
  have HC := Lib.hid (hc0)
  clear hcell hc0
  clear hn ho hx
  go_enter Tryz.func44, Tryz.ntmps44
  go_wp2_with fail
  refine (HAO.out 2 w (Below.refl _ _)).mono ?_
  rw [HN.out]
  rintro e w1 ⟨rfl, hbw⟩
  cases n
  · go_wp2_with fail
    refine (HAO.out 6 w1 hbw).mono ?_
    rw [HO.out]
    rintro e w2 ⟨rfl, hb2⟩
    have hbw := hbw.trans (hb2.mono hbw.size)
    clear hb2
    have c0 : w2.cell? ⟨bk, of, none⟩ = some (.int .i64 a) := by rw [hbw.cell (by exact hbw0)]; exact HC.out
    go_wp2_with (first | (go_at_call 74; refine (fits_any _ _ _).mono ?_; rintro e9 w9 ⟨rfl, rfl⟩))
    all_goals
      go_ret2
      exact ⟨ret_val (by have h1 := HN.out; have h2 := HO.out; simp_all [opT, kAt]), hbw⟩
  · have c0 : w1.cell? ⟨bk, of, none⟩ = some (.int .i64 a) := by rw [hbw.cell (by exact hbw0)]; exact HC.out
    go_wp2_with (first | (go_at_call 74; refine (fits_any _ _ _).mono ?_; rintro e9 w9 ⟨rfl, rfl⟩))
    all_goals
      go_ret2
      exact ⟨ret_val (by have h1 := HN.out; have h2 := HO.out; simp_all [opT, kAt]), hbw⟩
set_option maxHeartbeats 2000000 in
set_option maxRecDepth 100000 in
theorem opType_29 (a : Int) (A : Option Addr) (c B : Nat) (w : World) (hx : Reads w B 1 A 1 (numV .i64 [a])) (hB : B ≤ w.heap.size) :
    Calls Tryz.prog 44 #[.int .i64 29, .slice A 1 c] w fun e w' => e = .returned (.tuple #[.int .i64 (opT 29 [a]).1, .int .i64 (opT 29 [a]).2]) ∧ Below w.heap.size w w' := by
  obtain ⟨n, hn⟩ : ∃ n, allB [a] 2 = n := ⟨_, rfl⟩
  obtain ⟨o, ho⟩ : ∃ o, allB [a] 6 = o := ⟨_, rfl⟩
  have HN := Lib.hid hn
  have HO := Lib.hid ho
  have HAO := Lib.hid (fun k w' (hb : Below w.heap.size w w') => allOf_any [a] A c B k w' (by show 1 ≤ _; decide) (hx.below (hb.mono hB)) (Nat.le_trans hB hb.size))
  obtain ⟨bk, of, rfl, hbk, hcell⟩ := hx.plain (by decide)
  have hc0 : w.cell? ⟨bk, of, none⟩ = some (.int .i64 a) := hcell 0 _ rfl
  have hbw0 : bk < w.heap.size := by omega
  have HC := Lib.hid (hc0)
  clear hcell hc0
  clear hn ho hx
  go_enter Tryz.func44, Tryz.ntmps44
  go_wp2_with fail
  refine (HAO.out 2 w (Below.refl _ _)).mono ?_
  rw [HN.out]
  rintro e w1 ⟨rfl, hbw⟩
  cases n
  · go_wp2_with fail
    refine (HAO.out 6 w1 hbw).mono ?_
    rw [HO.out]
    rintro e w2 ⟨rfl, hb2⟩
    have hbw := hbw.trans (hb2.mono hbw.size)
    clear hb2
    have c0 : w2.cell? ⟨bk, of, none⟩ = some (.int .i64 a) := by rw [hbw.cell (by exact hbw0)]; exact HC.out
    go_wp2_with (first | (go_at_call 74; refine (fits_any _ _ _).mono ?_; rintro e9 w9 ⟨rfl, rfl⟩))
    all_goals
      go_ret2
      exact ⟨ret_val (by have h1 := HN.out; have h2 := HO.out; simp_all [opT, kAt]), hbw⟩
  · have c0 : w1.cell? ⟨bk, of, none⟩ = some (.int .i64 a) := by rw [hbw.cell (by exact hbw0)]; exact HC.out
    go_wp2_with (first | (go_at_call 74; refine (fits_any _ _ _).mono ?_; rintro e9 w9 ⟨rfl, rfl⟩))
    all_goals
      go_ret2
      exact ⟨ret_val (by have h1 := HN.out; have h2 := HO.out; simp_all [opT, kAt]), hbw⟩
set_option maxHeartbeats 2000000 in
set_option maxRecDepth 100000 in
theorem opType_30 (a : Int) (A : Option Addr) (c B : Nat) (w : World) (hx : Reads w B 1 A 1 (numV .i64 [a])) (hB : B ≤ w.heap.size) :
    Calls Tryz.prog 44 #[.int .i64 30, .slice A 1 c] w fun e w' => e = .returned (.tuple #[.int .i64 (opT 30 [a]).1, .int .i64 (opT 30 [a]).2]) ∧ Below w.heap.size w w' := by
  obtain ⟨n, hn⟩ : ∃ n, allB [a] 2 = n := ⟨_, rfl⟩
  obtain ⟨o, ho⟩ : ∃ o, allB [a] 6 = o := ⟨_, rfl⟩
  have HN := Lib.hid hn
  have HO := Lib.hid ho
  have HAO := Lib.hid (fun k w' (hb : Below w.heap.size w w') => allOf_any [a] A c B k w' (by show 1 ≤ _; decide) (hx.below (hb.mono hB)) (Nat.le_trans hB hb.size))
  clear hn ho hx
  go_enter Tryz.func44, Tryz.ntmps44
  go_wp2_with fail
  refine (HAO.out 2 w (Below.refl _ _)).mono ?_
  rw [HN.out]
  rintro e w1 ⟨rfl, hbw⟩
  cases n
  · go_wp2_with fail
    refine (HAO.out 6 w1 hbw).mono ?_
    rw [HO.out]
    rintro e w2 ⟨rfl, hb2⟩
    have hbw := hbw.trans (hb2.mono hbw.size)
    clear hb2
    go_wp2_with fail
    refine (HAO.out 3 w2 hbw).mono ?_
    rintro e w5 ⟨rfl, hb5⟩
    have hbw := hbw.trans (hb5.mono hbw.size)
    clear hb5
    go_wp2_with (first | (go_at_call 74; refine (fits_any _ _ _).mono ?_; rintro e9 w9 ⟨rfl, rfl⟩))
    go_ret2
    exact ⟨ret_val (by have h1 := HN.out; have h2 := HO.out; simp_all [opT]), hbw⟩
  · go_wp2_with fail
    refine (HAO.out 3 w1 hbw).mono ?_
    rintro e w5 ⟨rfl, hb5⟩
    have hbw := hbw.trans (hb5.mono hbw.size)
    clear hb5
    go_wp2_with (first | (go_at_call 74; refine (fits_any _ _ _).mono ?_; rintro e9 w9 ⟨rfl, rfl⟩))
    go_ret2
    exact ⟨ret_val (by have h1 := HN.out; have h2 := HO.out; simp_all [opT]), hbw⟩
set_option maxHeartbeats 2000000 in
set_option maxRecDepth 100000 in
theorem opType_31 (a b : Int) (A : Option Addr) (c B : Nat) (w : World) (hx : Reads w B 1 A 2 (numV .i64 [a, b])) (hB : B ≤ w.heap.size) :
    Calls Tryz.prog 44 #[.int .i64 31, .slice A 2 c] w fun e w' => e = .returned (.tuple #[.int .i64 (opT 31 [a, b]).1, .int .i64 (opT 31 [a, b]).2]) ∧ Below w.heap.size w w' := by
  obtain ⟨n, hn⟩ : ∃ n, allB [a, b] 2 = n := ⟨_, rfl⟩
  obtain ⟨o, ho⟩ : ∃ o, allB [a, b] 6 = o := ⟨_, rfl⟩
  have HN := Lib.hid hn
  have HO := Lib.hid ho
  have HAO := Lib.hid (fun k w' (hb : Below w.heap.size w w') => allOf_any [a, b] A c B k w' (by show 2 ≤ _; decide) (hx.below (hb.mono hB)) (Nat.le_trans hB hb.size))
  clear hn ho hx
  go_enter Tryz.func44, Tryz.ntmps44
  go_wp2_with fail
  refine (HAO.out 2 w (Below.refl _ _)).mono ?_
  rw [HN.out]
  rintro e w1 ⟨rfl, hbw⟩
  cases n
  · go_wp2_with fail
    refine (HAO.out 6 w1 hbw).mono ?_
    rw [HO.out]
    rintro e w2 ⟨rfl, hb2⟩
    have hbw := hbw.trans (hb2.mono hbw.size)
    clear hb2
    go_wp2_with fail
    refine (HAO.out 3 w2 hbw).mono ?_
    rintro e w5 ⟨rfl, hb5⟩
    have hbw := hbw.trans (hb5.mono hbw.size)
    clear hb5
    go_wp2_with (first | (go_at_call 74; refine (fits_any _ _ _).mono ?_; rintro e9 w9 ⟨rfl, rfl⟩))
    go_ret2
    exact ⟨ret_val (by have h1 := HN.out; have h2 := HO.out; simp_all [opT]), hbw⟩
  · go_wp2_with fail
    refine (HAO.out 3 w1 hbw).mono ?_
    rintro e w5 ⟨rfl, hb5⟩
    have hbw := hbw.trans (hb5.mono hbw.size)
    clear hb5
    go_wp2_with (first | (go_at_call 74; refine (fits_any _ _ _).mono ?_; rintro e9 w9 ⟨rfl, rfl⟩))
    go_ret2
    exact ⟨ret_val (by have h1 := HN.out; have h2 := HO.out; simp_all [opT]), hbw⟩
set_option maxHeartbeats 2000000 in
set_option maxRecDepth 100000 in
theorem opType_32 (a b : Int) (A : Option Addr) (c B : Nat) (w : World) (hx : Reads w B 1 A 2 (numV .i64 [a, b])) (hB : B ≤ w.heap.size) :
    Calls Tryz.prog 44 #[.int .i64 32, .slice A 2 c] w fun e w' => e = .returned (.tuple #[.int .i64 (opT 32 [a, b]).1, .int .i64 (opT 32 [a, b]).2]) ∧ Below w.heap.size w w' := by
  obtain ⟨n, hn⟩ : ∃ n, allB [a, b] 2 = n := ⟨_, rfl⟩
  obtain ⟨o, ho⟩ : ∃ o, allB [a, b] 6 = o := ⟨_, rfl⟩
  have HN := Lib.hid hn
  have HO := Lib.hid ho
  have HAO := Lib.hid (fun k w' (hb : Below w.heap.size w w') => allOf_any [a, b] A c B k w' (by show 2 ≤ _; decide) (hx.below (hb.mono hB)) (Nat.le_trans hB hb.size))
  clear hn ho hx
  go_enter Tryz.func44, Tryz.ntmps44
  go_wp2_with fail
  refine (HAO.out 2 w (Below.refl _ _)).mono ?_
  rw [HN.out]
  rintro e w1 ⟨rfl, hbw⟩
  cases n
  · go_wp2_with fail
    refine (HAO.out 6 w1 hbw).mono ?_
    rw [HO.out]
    rintro e w2 ⟨rfl, hb2⟩
    have hbw := hbw.trans (hb2.mono hbw.size)
    clear hb2
    go_wp2_with fail
    refine (HAO.out 3 w2 hbw).mono ?_
    rintro e w5 ⟨rfl, hb5⟩
    have hbw := hbw.trans (hb5.mono hbw.size)
    clear hb5
    go_wp2_with (first | (go_at_call 74; refine (fits_any _ _ _).mono ?_; rintro e9 w9 ⟨rfl, rfl⟩))
    go_ret2
    exact ⟨ret_val (by have h1 := HN.out; have h2 := HO.out; simp_all [opT]), hbw⟩
  · go_wp2_with fail
    refine (HAO.out 3 w1 hbw).mono ?_
    rintro e w5 ⟨rfl, hb5⟩
    have hbw := hbw.trans (hb5.mono hbw.size)
    clear hb5
    go_wp2_with (first | (go_at_call 74; refine (fits_any _ _ _).mono ?_; rintro e9 w9 ⟨rfl, rfl⟩))
    go_ret2
    exact ⟨ret_val (by have h1 := HN.out; have h2 := HO.out; simp_all [opT]), hbw⟩
set_option maxHeartbeats 2000000 in
set_option maxRecDepth 100000 in
theorem opType_33 (a b : Int) (A : Option Addr) (c B : Nat) (w : World) (hx : Reads w B 1 A 2 (numV .i64 [a, b])) (hB : B ≤ w.heap.size) :
    Calls Tryz.prog 44 #[.int .i64 33, .slice A 2 c] w fun e w' => e = .returned (.tuple #[.int .i64 (opT 33 [a, b]).1, .int .i64 (opT 33 [a, b]).2]) ∧ Below w.heap.size w w' := by
  obtain ⟨n, hn⟩ : ∃ n, allB [a, b] 2 = n := ⟨_, rfl⟩
  obtain ⟨o, ho⟩ : ∃ o, allB [a, b] 6 = o := ⟨_, rfl⟩
  have HN := Lib.hid hn
  have HO := Lib.hid ho
  have HAO := Lib.hid (fun k w' (hb : Below w.heap.size w w') => allOf_any [a, b] A c B k w' (by show 2 ≤ _; decide) (hx.below (hb.mono hB)) (Nat.le_trans hB hb.size))
  clear hn ho hx
  go_enter Tryz.func44, Tryz.ntmps44
  go_wp2_with fail
  refine (HAO.out 2 w (Below.refl _ _)).mono ?_
  rw [HN.out]
  rintro e w1 ⟨rfl, hbw⟩
  cases n
  · go_wp2_with fail
    refine (HAO.out 6 w1 hbw).mono ?_
    rw [HO.out]
    rintro e w2 ⟨rfl, hb2⟩
    have hbw := hbw.trans (hb2.mono hbw.size)
    clear hb2
    go_wp2_with fail
    refine (HAO.out 3 w2 hbw).mono ?_
    rintro e w5 ⟨rfl, hb5⟩
    have hbw := hbw.trans (hb5.mono hbw.size)
    clear hb5
    go_wp2_with (first | (go_at_call 74; refine (fits_any _ _ _).mono ?_; rintro e9 w9 ⟨rfl, rfl⟩))
    go_ret2
    exact ⟨ret_val (by have h1 := HN.out; have h2 := HO.out; simp_all [opT]), hbw⟩
  · go_wp2_with fail
    refine (HAO.out 3 w1 hbw).mono ?_
    rintro e w5 ⟨rfl, hb5⟩
    have hbw := hbw.trans (hb5.mono hbw.size)
    clear hb5
    go_wp2_with (first | (go_at_call 74; refine (fits_any _ _ _).mono ?_; rintro e9 w9 ⟨rfl, rfl⟩))
    go_ret2
    exact ⟨ret_val (by have h1 := HN.out; have h2 := HO.out; simp_all [opT]), hbw⟩
set_option maxHeartbeats 2000000 in
set_option maxRecDepth 100000 in
theorem opType_34 (a : Int) (A : Option Addr) (c B : Nat) (w : World) (hx : Reads w B 1 A 1 (numV .i64 [a])) (hB : B ≤ w.heap.size) :
    Calls Tryz.prog 44 #[.int .i64 34, .slice A 1 c] w fun e w' => e = .returned (.tuple #[.int .i64 (opT 34 [a]).1, .int .i64 (opT 34 [a]).2]) ∧ Below w.heap.size w w' := by
  obtain ⟨n, hn⟩ : ∃ n, allB [a] 2 = n := ⟨_, rfl⟩
  obtain ⟨o, ho⟩ : ∃ o, allB [a] 6 = o := ⟨_, rfl⟩
  have HN := Lib.hid hn
  have HO := Lib.hid ho
  have HAO := Lib.hid (fun k w' (hb : Below w.heap.size w w') => allOf_any [a] A c B k w' (by show 1 ≤ _; decide) (hx.below (hb.mono hB)) (Nat.le_trans hB hb.size))
  clear hn ho hx
  go_enter Tryz.func44, Tryz.ntmps44
  go_wp2_with fail
  refine (HAO.out 2 w (Below.refl _ _)).mono ?_
  rw [HN.out]
  rintro e w1 ⟨rfl, hbw⟩
  cases n
  · go_wp2_with fail
    refine (HAO.out 6 w1 hbw).mono ?_
    rw [HO.out]
    rintro e w2 ⟨rfl, hb2⟩
    have hbw := hbw.trans (hb2.mono hbw.size)
    clear hb2
    go_wp2_with fail
    refine (HAO.out 6 w2 hbw).mono ?_
    rintro e w5 ⟨rfl, hb5⟩
    have hbw := hbw.trans (hb5.mono hbw.size)
    clear hb5
    go_wp2_with (first | (go_at_call 74; refine (fits_any _ _ _).mono ?_; rintro e9 w9 ⟨rfl, rfl⟩))
    go_ret2
    exact ⟨ret_val (by have h1 := HN.out; have h2 := HO.out; simp_all [opT]), hbw⟩
  · go_wp2_with fail
    refine (HAO.out 6 w1 hbw).mono ?_
    rintro e w5 ⟨rfl, hb5⟩
    have hbw := hbw.trans (hb5.mono hbw.size)
    clear hb5
    go_wp2_with (first | (go_at_call 74; refine (fits_any _ _ _).mono ?_; rintro e9 w9 ⟨rfl, rfl⟩))
    go_ret2
    exact ⟨ret_val (by have h1 := HN.out; have h2 := HO.out; simp_all [opT]), hbw⟩
set_option maxHeartbeats 2000000 in
set_option maxRecDepth 100000 in
theorem opType_35 (a : Int) (A : Option Addr) (c B : Nat) (w : World) (hx : Reads w B 1 A 1 (numV .i64 [a])) (hB : B ≤ w.heap.size) :
    Calls Tryz.prog 44 #[.int .i64 35, .slice A 1 c] w fun e w' => e = .returned (.tuple #[.int .i64 (opT 35 [a]).1, .int .i64 (opT 35 [a]).2]) ∧ Below w.heap.size w w' := by
  obtain ⟨n, hn⟩ : ∃ n, allB [a] 2 = n := ⟨_, rfl⟩
  obtain ⟨o, ho⟩ : ∃ o, allB [a] 6 = o := ⟨_, rfl⟩
  have HN := Lib.hid hn
  have HO := Lib.hid ho
  have HAO := Lib.hid (fun k w' (hb : Below w.heap.size w w') => allOf_any [a] A c B k w' (by show 1 ≤ _; decide) (hx.below (hb.mono hB)) (Nat.le_trans hB hb.size))
  clear hn ho hx
  go_enter Tryz.func44, Tryz.ntmps44
  go_wp2_with fail
  refine (HAO.out 2 w (Below.refl _ _)).mono ?_
  rw [HN.out]
  rintro e w1 ⟨rfl, hbw⟩
  cases n
  · go_wp2_with fail
    refine (HAO.out 6 w1 hbw).mono ?_
    rw [HO.out]
    rintro e w2 ⟨rfl, hb2⟩
    have hbw := hbw.trans (hb2.mono hbw.size)
    clear hb2
    go_wp2_with fail
    refine (HAO.out 6 w2 hbw).mono ?_
    rintro e w5 ⟨rfl, hb5⟩
    have hbw := hbw.trans (hb5.mono hbw.size)
    clear hb5
    go_wp2_with (first | (go_at_call 74; refine (fits_any _ _ _).mono ?_; rintro e9 w9 ⟨rfl, rfl⟩))
    go_ret2
    exact ⟨ret_val (by have h1 := HN.out; have h2 := HO.out; simp_all [opT]), hbw⟩
  · go_wp2_with fail
    refine (HAO.out 6 w1 hbw).mono ?_
    rintro e w5 ⟨rfl, hb5⟩
    have hbw := hbw.trans (hb5.mono hbw.size)
    clear hb5
    go_wp2_with (first | (go_at_call 74; refine (fits_any _ _ _).mono ?_; rintro e9 w9 ⟨rfl, rfl⟩))
    go_ret2
    exact ⟨ret_val (by have h1 := HN.out; have h2 := HO.out; simp_all [opT]), hbw⟩
set_option maxHeartbeats 2000000 in
set_option maxRecDepth 100000 in
theorem opType_36 (a : Int) (A : Option Addr) (c B : Nat) (w : World) (hx : Reads w B 1 A 1 (numV .i64 [a])) (hB : B ≤ w.heap.size) :
    Calls Tryz.prog 44 #[.int .i64 36, .slice A 1 c] w fun e w' => e = .returned (.tuple #[.int .i64 (opT 36 [a]).1, .int .i64 (opT 36 [a]).2]) ∧ Below w.heap.size w w' := by
  obtain ⟨n, hn⟩ : ∃ n, allB [a] 2 = n := ⟨_, rfl⟩
  obtain ⟨o, ho⟩ : ∃ o, allB [a] 6 = o := ⟨_, rfl⟩
  have HN := Lib.hid hn
  have HO := Lib.hid ho
  have HAO := Lib.hid (fun k w' (hb : Below w.heap.size w w') => allOf_any [a] A c B k w' (by show 1 ≤ _; decide) (hx.below (hb.mono hB)) (Nat.le_trans hB hb.size))
  clear hn ho hx
  go_enter Tryz.func44, Tryz.ntmps44
  go_wp2_with fail
  refine (HAO.out 2 w (Below.refl _ _)).mono ?_
  rw [HN.out]
  rintro e w1 ⟨rfl, hbw⟩
  cases n
  · go_wp2_with fail
    refine (HAO.out 6 w1 hbw).mono ?_
    rw [HO.out]
    rintro e w2 ⟨rfl, hb2⟩
    have hbw := hbw.trans (hb2.mono hbw.size)
    clear hb2
    go_wp2_with fail
    refine (HAO.out 6 w2 hbw).mono ?_
    rintro e w5 ⟨rfl, hb5⟩
    have hbw := hbw.trans (hb5.mono hbw.size)
    clear hb5
    go_wp2_with (first | (go_at_call 74; refine (fits_any _ _ _).mono ?_; rintro e9 w9 ⟨rfl, rfl⟩))
    go_ret2
    exact ⟨ret_val (by have h1 := HN.out; have h2 := HO.out; simp_all [opT]), hbw⟩
  · go_wp2_with fail
    refine (HAO.out 6 w1 hbw).mono ?_
    rintro e w5 ⟨rfl, hb5⟩
    have hbw := hbw.trans (hb5.mono hbw.size)
    clear hb5
    go_wp2_with (first | (go_at_call 74; refine (fits_any _ _ _).mono ?_; rintro e9 w9 ⟨rfl, rfl⟩))
    go_ret2
    exact ⟨ret_val (by have h1 := HN.out; have h2 := HO.out; simp_all [opT]), hbw⟩
set_option maxHeartbeats 2000000 in
set_option maxRecDepth 100000 in
theorem opType_37 (a b : Int) (A : Option Addr) (c B : Nat) (w : World) (hx : Reads w B 1 A 2 (numV .i64 [a, b])) (hB : B ≤ w.heap.size) :
    Calls Tryz.prog 44 #[.int .i64 37, .slice A 2 c] w fun e w' => e = .returned (.tuple #[.int .i64 (opT 37 [a, b]).1, .int .i64 (opT 37 [a, b]).2]) ∧ Below w.heap.size w w' := by
  obtain ⟨n, hn⟩ : ∃ n, allB [a, b] 2 = n := ⟨_, rfl⟩
  obtain ⟨o, ho⟩ : ∃ o, allB [a, b] 6 = o := ⟨_, rfl⟩
  have HN := Lib.hid hn
  have HO := Lib.hid ho
  have HAO := Lib.hid (fun k w' (hb : Below w.heap.size w w') => allOf_any [a, b] A c B k w' (by show 2 ≤ _; decide) (hx.below (hb.mono hB)) (Nat.le_trans hB hb.size))
  clear hn ho hx
  go_enter Tryz.func44, Tryz.ntmps44
  go_wp2_with fail
  refine (HAO.out 2 w (Below.refl _ _)).mono ?_
  rw [HN.out]
  rintro e w1 ⟨rfl, hbw⟩
  cases n
  · go_wp2_with fail
    refine (HAO.out 6 w1 hbw).mono ?_
    rw [HO.out]
    rintro e w2 ⟨rfl, hb2⟩
    have hbw := hbw.trans (hb2.mono hbw.size)
    clear hb2
    go_wp2_with fail
    refine (HAO.out 6 w2 hbw).mono ?_
    rintro e w5 ⟨rfl, hb5⟩
    have hbw := hbw.trans (hb5.mono hbw.size)
    clear hb5
    go_wp2_with (first | (go_at_call 74; refine (fits_any _ _ _).mono ?_; rintro e9 w9 ⟨rfl, rfl⟩))
    go_ret2
    exact ⟨ret_val (by have h1 := HN.out; have h2 := HO.out; simp_all [opT]), hbw⟩
  · go_wp2_with fail
    refine (HAO.out 6 w1 hbw).mono ?_
    rintro e w5 ⟨rfl, hb5⟩
    have hbw := hbw.trans (hb5.mono hbw.size)
    clear hb5
    go_wp2_with (first | (go_at_call 74; refine (fits_any _ _ _).mono ?_; rintro e9 w9 ⟨rfl, rfl⟩))
    go_ret2
    exact ⟨ret_val (by have h1 := HN.out; have h2 := HO.out; simp_all [opT]), hbw⟩
set_option maxHeartbeats 2000000 in
set_option maxRecDepth 100000 in
theorem opType_38 (a b : Int) (A : Option Addr) (c B : Nat) (w : World) (hx : Reads w B 1 A 2 (numV .i64 [a, b])) (hB : B ≤ w.heap.size) :
    Calls Tryz.prog 44 #[.int .i64 38, .slice A 2 c] w fun e w' => e = .returned (.tuple #[.int .i64 (opT 38 [a, b]).1, .int .i64 (opT 38 [a, b]).2]) ∧ Below w.heap.size w w' := by
  obtain ⟨n, hn⟩ : ∃ n, allB [a, b] 2 = n := ⟨_, rfl⟩
  obtain ⟨o, ho⟩ : ∃ o, allB [a, b] 6 = o := ⟨_, rfl⟩
  have HN := Lib.hid hn
  have HO := Lib.hid ho
  have HAO := Lib.hid (fun k w' (hb : Below w.heap.size w w') => allOf_any [a, b] A c B k w' (by show 2 ≤ _; decide) (hx.below (hb.mono hB)) (Nat.le_trans hB hb.size))
  clear hn ho hx
  go_enter Tryz.func44, Tryz.ntmps44
  go_wp2_with fail
  refine (HAO.out 2 w (Below.refl _ _)).mono ?_
  rw [HN.out]
  rintro e w1 ⟨rfl, hbw⟩
  cases n
  · go_wp2_with fail
    refine (HAO.out 6 w1 hbw).mono ?_
    rw [HO.out]
    rintro e w2 ⟨rfl, hb2⟩
    have hbw := hbw.trans (hb2.mono hbw.size)
    clear hb2
    go_wp2_with fail
    refine (HAO.out 6 w2 hbw).mono ?_
    rintro e w5 ⟨rfl, hb5⟩
    have hbw := hbw.trans (hb5.mono hbw.size)
    clear hb5
    go_wp2_with (first | (go_at_call 74; refine (fits_any _ _ _).mono ?_; rintro e9 w9 ⟨rfl, rfl⟩))
    go_ret2
    exact ⟨ret_val (by have h1 := HN.out; have h2 := HO.out; simp_all [opT]), hbw⟩
  · go_wp2_with fail
    refine (HAO.out 6 w1 hbw).mono ?_
    rintro e w5 ⟨rfl, hb5⟩
    have hbw := hbw.trans (hb5.mono hbw.size)
    clear hb5
    go_wp2_with (first | (go_at_call 74; refine (fits_any _ _ _).mono ?_; rintro e9 w9 ⟨rfl, rfl⟩))
    go_ret2
    exact ⟨ret_val (by have h1 := HN.out; have h2 := HO.out; simp_all [opT]), hbw⟩
end Go.Proofs.YtpanbeoelbhhgaaGreatDoor
