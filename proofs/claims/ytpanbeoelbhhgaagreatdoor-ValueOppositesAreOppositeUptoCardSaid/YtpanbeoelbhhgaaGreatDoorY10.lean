/- The walks of the small callees of the parts' faults: isZero, arity, extra. · The walk of partFault: which fault a part of an expression has by itself. · The walks of the faults of all parts of an expression, in both packages. -/
import Derived.Test.YtpanbeoelbhhgaaGreatDoorY9
namespace Go.Proofs.YtpanbeoelbhhgaaGreatDoor
open Go.RowKit
set_option maxHeartbeats 1000000 in
theorem isZero_any (x : Val) (A : Option Addr) (c : Nat) (w : World) :
    Calls Tryz.prog 158 #[.agg #[.int .i64 x.k, .int .i64 x.n, .string x.s, .slice A x.l.length c]] w fun e w' => e = .returned (.bool (zeroVal x)) ∧ Below w.heap.size w w' := by
  go_enter Tryz.func158, Tryz.ntmps158
  go_wp2
  all_goals (go_ret; exact ⟨ret_bool (by simp_all [zeroVal]; try (rw [Bool.eq_iff_iff]; simp [List.length_eq_zero_iff])), (Below.refl _ _).alloc (Nat.le_refl _) _⟩)
theorem arOf_other {op : Int} (h : op ≠ 2 ∧ op ≠ 3 ∧ op ≠ 24 ∧ op ≠ 25 ∧ op ≠ 26 ∧ op ≠ 1 ∧ op ≠ 12 ∧ op ≠ 13 ∧ op ≠ 14 ∧ op ≠ 20 ∧ op ≠ 21 ∧ op ≠ 22 ∧ op ≠ 23 ∧ op ≠ 28 ∧ op ≠ 29 ∧ op ≠ 30 ∧ op ≠ 34 ∧ op ≠ 35 ∧ op ≠ 36) : arOf op = if outB op 1 39 = true then (0, 0) else (2, 2) := by
  obtain ⟨h2, h3, h24, h25, h26, h1, h12, h13, h14, h20, h21, h22, h23, h28, h29, h30, h34, h35, h36⟩ := h
  unfold arOf
  rw [if_neg (by omega), if_neg (by omega), if_neg (by omega)]
  by_cases h0 : 1 ≤ op ∧ op ≤ 39
  · rw [if_pos h0, outB_false h0.1 h0.2]; rfl
  · rw [if_neg h0, outB_true (by omega)]; rfl
def arV (op : Int) : Value := .tuple #[.int .i64 ((arOf op).1 : Nat), .int .i64 ((arOf op).2 : Nat)]
set_option maxHeartbeats 4000000 in
theorem arity_any (op : Int) (w : World) :
    Calls Tryz.prog 159 #[.int .i64 op] w fun e w' => e = .returned (arV op) ∧ w = w' := by
  by_cases h : op = 2 ∨ op = 3 ∨ op = 24 ∨ op = 25 ∨ op = 26 ∨ op = 1 ∨ op = 12 ∨ op = 13 ∨ op = 14 ∨ op = 20 ∨ op = 21 ∨ op = 22 ∨ op = 23 ∨ op = 28 ∨ op = 29 ∨ op = 30 ∨ op = 34 ∨ op = 35 ∨ op = 36
  · rcases h with rfl | rfl | rfl | rfl | rfl | rfl | rfl | rfl | rfl | rfl | rfl | rfl | rfl | rfl | rfl | rfl | rfl | rfl | rfl
    all_goals
      go_enter Tryz.func159, Tryz.ntmps159
      go_wp2
      go_ret2
      exact ⟨rfl, rfl⟩
  · have hh : op ≠ 2 ∧ op ≠ 3 ∧ op ≠ 24 ∧ op ≠ 25 ∧ op ≠ 26 ∧ op ≠ 1 ∧ op ≠ 12 ∧ op ≠ 13 ∧ op ≠ 14 ∧ op ≠ 20 ∧ op ≠ 21 ∧ op ≠ 22 ∧ op ≠ 23 ∧ op ≠ 28 ∧ op ≠ 29 ∧ op ≠ 30 ∧ op ≠ 34 ∧ op ≠ 35 ∧ op ≠ 36 := by omega
    have HA := Lib.hid (arOf_other hh)
    have b2 : (op == 2) = false := by rw [beq_eq_false_iff_ne]; omega
    have b3 : (op == 3) = false := by rw [beq_eq_false_iff_ne]; omega
    have b24 : (op == 24) = false := by rw [beq_eq_false_iff_ne]; omega
    have b25 : (op == 25) = false := by rw [beq_eq_false_iff_ne]; omega
    have b26 : (op == 26) = false := by rw [beq_eq_false_iff_ne]; omega
    have b1 : (op == 1) = false := by rw [beq_eq_false_iff_ne]; omega
    have b12 : (op == 12) = false := by rw [beq_eq_false_iff_ne]; omega
    have b13 : (op == 13) = false := by rw [beq_eq_false_iff_ne]; omega
    have b14 : (op == 14) = false := by rw [beq_eq_false_iff_ne]; omega
    have b20 : (op == 20) = false := by rw [beq_eq_false_iff_ne]; omega
    have b21 : (op == 21) = false := by rw [beq_eq_false_iff_ne]; omega
    have b22 : (op == 22) = false := by rw [beq_eq_false_iff_ne]; omega
    have b23 : (op == 23) = false := by rw [beq_eq_false_iff_ne]; omega
    have b28 : (op == 28) = false := by rw [beq_eq_false_iff_ne]; omega
    have b29 : (op == 29) = false := by rw [beq_eq_false_iff_ne]; omega
    have b30 : (op == 30) = false := by rw [beq_eq_false_iff_ne]; omega
    have b34 : (op == 34) = false := by rw [beq_eq_false_iff_ne]; omega
    have b35 : (op == 35) = false := by rw [beq_eq_false_iff_ne]; omega
    have b36 : (op == 36) = false := by rw [beq_eq_false_iff_ne]; omega
    obtain ⟨o, ho⟩ : ∃ o, outB op 1 39 = o := ⟨_, rfl⟩
    have HO := Lib.hid ho
    clear h hh ho
    go_enter Tryz.func159, Tryz.ntmps159
    go_wp2_with fail
    refine (outside_any op 1 39 w).mono ?_
    rw [HO.out]
    rintro e w1 ⟨rfl, rfl⟩
    cases o
    · go_wp2
      go_ret2
      exact ⟨ret_val (by unfold arV; rw [HA.out, HO.out]; rfl), rfl⟩
    · go_wp2
      go_ret2
      exact ⟨ret_val (by unfold arV; rw [HA.out, HO.out]; rfl), rfl⟩
set_option maxHeartbeats 4000000 in
set_option maxRecDepth 100000 in
theorem extra_1 (op : Int) (nm : ByteArray) (v : Val) (n : Nat) (A : Option Addr) (c : Nat) (A' : Option Addr) (c' : Nat) (w : World) (hn : n ≤ maxLen) :
    Calls Tryz.prog 114 #[.agg #[.int .i64 1, .int .i64 op, .string nm, .int .i64 v.k, .int .i64 v.n, .string v.s, .slice A v.l.length c, .slice A' n c']] w fun e w' => e = .returned (.bool (extraB 1 op nm v n)) ∧ Below w.heap.size w w' := by
  unfold maxLen at hn
  go_enter Tryz.func114, Tryz.ntmps114
  go_wp2
  all_goals (go_ret; exact ⟨ret_bool (by simp_all [extraB, Nat.pos_iff_ne_zero]), (Below.refl _ _).alloc (Nat.le_refl _) _⟩)
set_option maxHeartbeats 4000000 in
set_option maxRecDepth 100000 in
theorem extra_2 (op : Int) (nm : ByteArray) (v : Val) (n : Nat) (A : Option Addr) (c : Nat) (A' : Option Addr) (c' : Nat) (w : World) (hn : n ≤ maxLen) :
    Calls Tryz.prog 114 #[.agg #[.int .i64 2, .int .i64 op, .string nm, .int .i64 v.k, .int .i64 v.n, .string v.s, .slice A v.l.length c, .slice A' n c']] w fun e w' => e = .returned (.bool (extraB 2 op nm v n)) ∧ Below w.heap.size w w' := by
  unfold maxLen at hn
  obtain ⟨z, hz⟩ : ∃ z, zeroVal v = z := ⟨_, rfl⟩
  have HZ := Lib.hid hz
  clear hz
  go_enter Tryz.func114, Tryz.ntmps114
  go_wp2_with fail
  obtain ⟨W, hW⟩ : ∃ W, W = (w.alloc (.cells #[.int .i64 2, .int .i64 op, .string nm, .int .i64 v.k, .int .i64 v.n, .string v.s, .slice A v.l.length c, .slice A' n c'] 27 (0, 0))) := ⟨_, rfl⟩
  have hbw : Below w.heap.size w W := by rw [hW]; exact ((Below.refl _ w).alloc (Nat.le_refl _) _)
  have B0 : Blk W (w.heap.size) 27 #[.int .i64 2, .int .i64 op, .string nm, .int .i64 v.k, .int .i64 v.n, .string v.s, .slice A v.l.length c, .slice A' n c'] := by
    rw [hW]
    have := Blk.new w 27 #[.int .i64 2, .int .i64 op, .string nm, .int .i64 v.k, .int .i64 v.n, .string v.s, .slice A v.l.length c, .slice A' n c']
    exact this
  have hsz : W.heap.size = w.heap.size + 1 := by rw [hW]; simp
  rw [← hW]
  clear hW hsz
  refine (isZero_any v A c W).mono ?_
  rw [HZ.out]
  rintro e w1 ⟨rfl, hb1⟩
  have B0 := B0.below hb1 B0.lt
  have hbw := hbw.trans (hb1.mono hbw.size)
  clear hb1
  have rc0 : w1.cell? ⟨w.heap.size, 0, none⟩ = some (.int .i64 2) := B0.cell 0
  have rc1 : w1.cell? ⟨w.heap.size, 1, none⟩ = some (.int .i64 op) := B0.cell 1
  have rc2 : w1.cell? ⟨w.heap.size, 2, none⟩ = some (.string nm) := B0.cell 2
  have rc3 : w1.cell? ⟨w.heap.size, 3, none⟩ = some (.int .i64 v.k) := B0.cell 3
  have rc4 : w1.cell? ⟨w.heap.size, 4, none⟩ = some (.int .i64 v.n) := B0.cell 4
  have rc5 : w1.cell? ⟨w.heap.size, 5, none⟩ = some (.string v.s) := B0.cell 5
  have rc6 : w1.cell? ⟨w.heap.size, 6, none⟩ = some (.slice A v.l.length c) := B0.cell 6
  have rc7 : w1.cell? ⟨w.heap.size, 7, none⟩ = some (.slice A' n c') := B0.cell 7
  cases z
  · go_wp2
    go_ret
    exact ⟨ret_bool (by unfold extraB; rw [HZ.out]; simp), hbw⟩
  · go_wp2
    all_goals (go_ret; exact ⟨ret_bool (by have hz := HZ.out; simp_all [extraB, Nat.pos_iff_ne_zero]), hbw⟩)
set_option maxHeartbeats 4000000 in
set_option maxRecDepth 100000 in
theorem extra_3 (op : Int) (nm : ByteArray) (v : Val) (n : Nat) (A : Option Addr) (c : Nat) (A' : Option Addr) (c' : Nat) (w : World) (hn : n ≤ maxLen) :
    Calls Tryz.prog 114 #[.agg #[.int .i64 3, .int .i64 op, .string nm, .int .i64 v.k, .int .i64 v.n, .string v.s, .slice A v.l.length c, .slice A' n c']] w fun e w' => e = .returned (.bool (extraB 3 op nm v n)) ∧ Below w.heap.size w w' := by
  unfold maxLen at hn
  obtain ⟨z, hz⟩ : ∃ z, zeroVal v = z := ⟨_, rfl⟩
  have HZ := Lib.hid hz
  clear hz
  go_enter Tryz.func114, Tryz.ntmps114
  go_wp2_with fail
  obtain ⟨W, hW⟩ : ∃ W, W = (w.alloc (.cells #[.int .i64 3, .int .i64 op, .string nm, .int .i64 v.k, .int .i64 v.n, .string v.s, .slice A v.l.length c, .slice A' n c'] 27 (0, 0))) := ⟨_, rfl⟩
  have hbw : Below w.heap.size w W := by rw [hW]; exact ((Below.refl _ w).alloc (Nat.le_refl _) _)
  have B0 : Blk W (w.heap.size) 27 #[.int .i64 3, .int .i64 op, .string nm, .int .i64 v.k, .int .i64 v.n, .string v.s, .slice A v.l.length c, .slice A' n c'] := by
    rw [hW]
    have := Blk.new w 27 #[.int .i64 3, .int .i64 op, .string nm, .int .i64 v.k, .int .i64 v.n, .string v.s, .slice A v.l.length c, .slice A' n c']
    exact this
  have hsz : W.heap.size = w.heap.size + 1 := by rw [hW]; simp
  rw [← hW]
  clear hW hsz
  refine (isZero_any v A c W).mono ?_
  rw [HZ.out]
  rintro e w1 ⟨rfl, hb1⟩
  have B0 := B0.below hb1 B0.lt
  have hbw := hbw.trans (hb1.mono hbw.size)
  clear hb1
  have rc0 : w1.cell? ⟨w.heap.size, 0, none⟩ = some (.int .i64 3) := B0.cell 0
  have rc1 : w1.cell? ⟨w.heap.size, 1, none⟩ = some (.int .i64 op) := B0.cell 1
  have rc2 : w1.cell? ⟨w.heap.size, 2, none⟩ = some (.string nm) := B0.cell 2
  have rc3 : w1.cell? ⟨w.heap.size, 3, none⟩ = some (.int .i64 v.k) := B0.cell 3
  have rc4 : w1.cell? ⟨w.heap.size, 4, none⟩ = some (.int .i64 v.n) := B0.cell 4
  have rc5 : w1.cell? ⟨w.heap.size, 5, none⟩ = some (.string v.s) := B0.cell 5
  have rc6 : w1.cell? ⟨w.heap.size, 6, none⟩ = some (.slice A v.l.length c) := B0.cell 6
  have rc7 : w1.cell? ⟨w.heap.size, 7, none⟩ = some (.slice A' n c') := B0.cell 7
  cases z
  · go_wp2
    go_ret
    exact ⟨ret_bool (by unfold extraB; rw [HZ.out]; simp), hbw⟩
  · go_wp2
    all_goals (go_ret; exact ⟨ret_bool (by have hz := HZ.out; simp_all [extraB, Nat.pos_iff_ne_zero]), hbw⟩)
set_option maxHeartbeats 4000000 in
set_option maxRecDepth 100000 in
theorem extra_4 (op : Int) (nm : ByteArray) (v : Val) (n : Nat) (A : Option Addr) (c : Nat) (A' : Option Addr) (c' : Nat) (w : World) (_hn : n ≤ maxLen) :
    Calls Tryz.prog 114 #[.agg #[.int .i64 4, .int .i64 op, .string nm, .int .i64 v.k, .int .i64 v.n, .string v.s, .slice A v.l.length c, .slice A' n c']] w fun e w' => e = .returned (.bool (extraB 4 op nm v n)) ∧ Below w.heap.size w w' := by
  unfold maxLen at _hn
  obtain ⟨z, hz⟩ : ∃ z, zeroVal v = z := ⟨_, rfl⟩
  have HZ := Lib.hid hz
  clear hz
  go_enter Tryz.func114, Tryz.ntmps114
  go_wp2_with fail
  obtain ⟨W, hW⟩ : ∃ W, W = (w.alloc (.cells #[.int .i64 4, .int .i64 op, .string nm, .int .i64 v.k, .int .i64 v.n, .string v.s, .slice A v.l.length c, .slice A' n c'] 27 (0, 0))) := ⟨_, rfl⟩
  have hbw : Below w.heap.size w W := by rw [hW]; exact ((Below.refl _ w).alloc (Nat.le_refl _) _)
  have B0 : Blk W (w.heap.size) 27 #[.int .i64 4, .int .i64 op, .string nm, .int .i64 v.k, .int .i64 v.n, .string v.s, .slice A v.l.length c, .slice A' n c'] := by
    rw [hW]
    have := Blk.new w 27 #[.int .i64 4, .int .i64 op, .string nm, .int .i64 v.k, .int .i64 v.n, .string v.s, .slice A v.l.length c, .slice A' n c']
    exact this
  have hsz : W.heap.size = w.heap.size + 1 := by rw [hW]; simp
  rw [← hW]
  clear hW hsz
  refine (isZero_any v A c W).mono ?_
  rw [HZ.out]
  rintro e w1 ⟨rfl, hb1⟩
  have B0 := B0.below hb1 B0.lt
  have hbw := hbw.trans (hb1.mono hbw.size)
  clear hb1
  have rc0 : w1.cell? ⟨w.heap.size, 0, none⟩ = some (.int .i64 4) := B0.cell 0
  have rc1 : w1.cell? ⟨w.heap.size, 1, none⟩ = some (.int .i64 op) := B0.cell 1
  have rc2 : w1.cell? ⟨w.heap.size, 2, none⟩ = some (.string nm) := B0.cell 2
  have rc3 : w1.cell? ⟨w.heap.size, 3, none⟩ = some (.int .i64 v.k) := B0.cell 3
  have rc4 : w1.cell? ⟨w.heap.size, 4, none⟩ = some (.int .i64 v.n) := B0.cell 4
  have rc5 : w1.cell? ⟨w.heap.size, 5, none⟩ = some (.string v.s) := B0.cell 5
  have rc6 : w1.cell? ⟨w.heap.size, 6, none⟩ = some (.slice A v.l.length c) := B0.cell 6
  have rc7 : w1.cell? ⟨w.heap.size, 7, none⟩ = some (.slice A' n c') := B0.cell 7
  cases z
  · go_wp2
    go_ret
    exact ⟨ret_bool (by unfold extraB; rw [HZ.out]; simp), hbw⟩
  · by_cases hnm : nm.toList = []
    rotate_left
    · have HNM := Lib.hid hnm
      have se : nm.toList.isEmpty = false := by cases h : nm.toList with
        | nil => exact absurd h hnm
        | cons a r => rfl
      clear hnm
      go_wp2
      go_ret
      exact ⟨ret_bool (by unfold extraB; rw [if_pos (.inr (.inr ⟨by omega, HNM.out⟩))]), hbw⟩
    have se : nm.toList.isEmpty = true := by rw [hnm]; rfl
    have HE := Lib.hid (show extraB 4 op nm v n = outB n ((arOf op).1 : Nat) ((arOf op).2 : Nat) by
      unfold extraB
      rw [if_neg (by rw [HZ.out]; simp [hnm]), if_neg (by omega)]
      simp [outB])
    obtain ⟨lo, hlo⟩ : ∃ lo, (arOf op).1 = lo := ⟨_, rfl⟩
    obtain ⟨hi, hhi⟩ : ∃ hi, (arOf op).2 = hi := ⟨_, rfl⟩
    have HL := Lib.hid (And.intro hlo hhi)
    have HAR := Lib.hid (show arV op = .tuple #[.int .i64 (lo : Nat), .int .i64 (hi : Nat)] by unfold arV; rw [hlo, hhi])
    clear hnm hlo hhi
    go_wp2_with fail
    refine (arity_any op w1).mono ?_
    rw [HAR.out]
    rintro e w2 ⟨rfl, rfl⟩
    go_wp2_with fail
    refine (outside_any n lo hi w1).mono ?_
    rintro e w2 ⟨rfl, rfl⟩
    go_wp2
    go_ret
    exact ⟨ret_bool (by rw [HE.out, HL.out.1, HL.out.2]), hbw⟩
set_option maxHeartbeats 4000000 in
set_option maxRecDepth 100000 in
theorem extra_5 (op : Int) (nm : ByteArray) (v : Val) (n : Nat) (A : Option Addr) (c : Nat) (A' : Option Addr) (c' : Nat) (w : World) (_hn : n ≤ maxLen) :
    Calls Tryz.prog 114 #[.agg #[.int .i64 5, .int .i64 op, .string nm, .int .i64 v.k, .int .i64 v.n, .string v.s, .slice A v.l.length c, .slice A' n c']] w fun e w' => e = .returned (.bool (extraB 5 op nm v n)) ∧ Below w.heap.size w w' := by
  unfold maxLen at _hn
  obtain ⟨z, hz⟩ : ∃ z, zeroVal v = z := ⟨_, rfl⟩
  have HZ := Lib.hid hz
  clear hz
  go_enter Tryz.func114, Tryz.ntmps114
  go_wp2_with fail
  obtain ⟨W, hW⟩ : ∃ W, W = (w.alloc (.cells #[.int .i64 5, .int .i64 op, .string nm, .int .i64 v.k, .int .i64 v.n, .string v.s, .slice A v.l.length c, .slice A' n c'] 27 (0, 0))) := ⟨_, rfl⟩
  have hbw : Below w.heap.size w W := by rw [hW]; exact ((Below.refl _ w).alloc (Nat.le_refl _) _)
  have B0 : Blk W (w.heap.size) 27 #[.int .i64 5, .int .i64 op, .string nm, .int .i64 v.k, .int .i64 v.n, .string v.s, .slice A v.l.length c, .slice A' n c'] := by
    rw [hW]
    have := Blk.new w 27 #[.int .i64 5, .int .i64 op, .string nm, .int .i64 v.k, .int .i64 v.n, .string v.s, .slice A v.l.length c, .slice A' n c']
    exact this
  have hsz : W.heap.size = w.heap.size + 1 := by rw [hW]; simp
  rw [← hW]
  clear hW hsz
  refine (isZero_any v A c W).mono ?_
  rw [HZ.out]
  rintro e w1 ⟨rfl, hb1⟩
  have B0 := B0.below hb1 B0.lt
  have hbw := hbw.trans (hb1.mono hbw.size)
  clear hb1
  have rc0 : w1.cell? ⟨w.heap.size, 0, none⟩ = some (.int .i64 5) := B0.cell 0
  have rc1 : w1.cell? ⟨w.heap.size, 1, none⟩ = some (.int .i64 op) := B0.cell 1
  have rc2 : w1.cell? ⟨w.heap.size, 2, none⟩ = some (.string nm) := B0.cell 2
  have rc3 : w1.cell? ⟨w.heap.size, 3, none⟩ = some (.int .i64 v.k) := B0.cell 3
  have rc4 : w1.cell? ⟨w.heap.size, 4, none⟩ = some (.int .i64 v.n) := B0.cell 4
  have rc5 : w1.cell? ⟨w.heap.size, 5, none⟩ = some (.string v.s) := B0.cell 5
  have rc6 : w1.cell? ⟨w.heap.size, 6, none⟩ = some (.slice A v.l.length c) := B0.cell 6
  have rc7 : w1.cell? ⟨w.heap.size, 7, none⟩ = some (.slice A' n c') := B0.cell 7
  cases z
  · go_wp2
    go_ret
    exact ⟨ret_bool (by unfold extraB; rw [HZ.out]; simp), hbw⟩
  · go_wp2
    all_goals (go_ret; exact ⟨ret_bool (by have hz := HZ.out; unfold extraB; rw [hz]; simp; try (rw [Bool.eq_iff_iff]; simp; omega)), hbw⟩)
theorem extra_any (k op : Int) (nm : ByteArray) (v : Val) (n : Nat) (A : Option Addr) (c : Nat) (A' : Option Addr) (c' : Nat) (w : World) (hn : n ≤ maxLen) (h1 : 1 ≤ k) (h5 : k ≤ 5) :
    Calls Tryz.prog 114 #[.agg #[.int .i64 k, .int .i64 op, .string nm, .int .i64 v.k, .int .i64 v.n, .string v.s, .slice A v.l.length c, .slice A' n c']] w fun e w' => e = .returned (.bool (extraB k op nm v n)) ∧ Below w.heap.size w w' := by
  obtain rfl | rfl | rfl | rfl | rfl : k = 1 ∨ k = 2 ∨ k = 3 ∨ k = 4 ∨ k = 5 := by omega
  · exact extra_1 op nm v n A c A' c' w hn
  · exact extra_2 op nm v n A c A' c' w hn
  · exact extra_3 op nm v n A c A' c' w hn
  · exact extra_4 op nm v n A c A' c' w hn
  · exact extra_5 op nm v n A c A' c' w hn
end Go.Proofs.YtpanbeoelbhhgaaGreatDoor
namespace Go.Proofs.YtpanbeoelbhhgaaGreatDoor
open Go.RowKit
theorem outB_k {k : Int} (h1 : 1 ≤ k) (h2 : k ≤ 5) : outB k 1 5 = false := outB_false h1 h2
theorem partB_out {k op : Int} {nm : ByteArray} {v : Val} {n : Nat} {hk : Int} (h : outB k 1 5 = true) : partB k op nm v n hk = 4 := by unfold partB; rw [if_pos h]
theorem partB_4o {op : Int} {nm : ByteArray} {v : Val} {n : Nat} {hk : Int} (h : outB op 1 39 = true) : partB 4 op nm v n hk = 4 := by unfold partB; rw [if_neg (by decide), if_pos ⟨rfl, h⟩]
theorem partB_5o {op : Int} {nm : ByteArray} {v : Val} {n : Nat} {hk : Int} (h : outB op 1 6 = true) : partB 5 op nm v n hk = 4 := by unfold partB; rw [if_neg (by decide), if_neg (by omega), if_pos ⟨rfl, h⟩]
theorem partB_x {k op : Int} {nm : ByteArray} {v : Val} {n : Nat} {hk : Int} (h1 : 1 ≤ k) (h2 : k ≤ 5) (h4 : k = 4 → outB op 1 39 = false) (h5 : k = 5 → outB op 1 6 = false) (h : extraB k op nm v n = true) : partB k op nm v n hk = 3 := by
  unfold partB
  rw [if_neg (by rw [outB_k h1 h2]; simp), if_neg (fun e => by rw [h4 e.1] at e; simp at e), if_neg (fun e => by rw [h5 e.1] at e; simp at e), if_pos h]
theorem partB_1 {op : Int} {nm : ByteArray} {v : Val} {n : Nat} {hk : Int} (h : extraB 1 op nm v n = false) : partB 1 op nm v n hk = if v.k = 0 ∨ v.k = 1 then 4 else checkV v := by
  unfold partB
  rw [if_neg (by decide), if_neg (by omega), if_neg (by omega), if_neg (by rw [h]; simp), if_pos rfl]
theorem partB_4 {op : Int} {nm : ByteArray} {v : Val} {n : Nat} {hk : Int} (h4 : outB op 1 39 = false) (h : extraB 4 op nm v n = false) : partB 4 op nm v n hk = if 12 ≤ op ∧ op ≤ 14 ∧ hk ≠ 2 then 3 else 0 := by
  unfold partB
  rw [if_neg (by decide), if_neg (by rw [h4]; simp), if_neg (by omega), if_neg (by rw [h]; simp), if_neg (by omega), if_pos rfl]
theorem partB_n {k op : Int} {nm : ByteArray} {v : Val} {n : Nat} {hk : Int} (hk2 : k = 2 ∨ k = 3 ∨ k = 5) (h5 : k = 5 → outB op 1 6 = false) (h : extraB k op nm v n = false) : partB k op nm v n hk = if isNameF nm.data.toList = true then 0 else 5 := by
  unfold partB
  rw [if_neg (by rw [outB_k (by omega) (by omega)]; simp), if_neg (by omega), if_neg (fun e => by rw [h5 e.1] at e; simp at e), if_neg (by rw [h]; simp), if_neg (by omega), if_neg (by omega)]
theorem arOf_ask {op : Int} (h : op = 12 ∨ op = 13 ∨ op = 14) : arOf op = (1, 1) := by rcases h with rfl | rfl | rfl <;> rfl
set_option maxHeartbeats 1000000 in
set_option maxRecDepth 100000 in
theorem partFault_out (k op : Int) (nm : ByteArray) (v : Val) (n : Nat) (hk : Int) (A : Option Addr) (c : Nat) (A' : Option Addr) (c' : Nat) (w : World) (ho : outB k 1 5 = true) :
    Calls Tryz.prog 73 #[.agg #[.int .i64 k, .int .i64 op, .string nm, .int .i64 v.k, .int .i64 v.n, .string v.s, .slice A v.l.length c, .slice A' n c']] w fun e w' => e = .returned (.int .i64 (partB k op nm v n hk)) ∧ Below w.heap.size w w' := by
  have HO := Lib.hid ho
  clear ho
  go_enter Tryz.func73, Tryz.ntmps73
  go_wp2_with fail
  obtain ⟨W, hW⟩ : ∃ W, W = (w.alloc (.cells #[.int .i64 k, .int .i64 op, .string nm, .int .i64 v.k, .int .i64 v.n, .string v.s, .slice A v.l.length c, .slice A' n c'] 27 (0, 0))) := ⟨_, rfl⟩
  have hbw : Below w.heap.size w W := by rw [hW]; exact ((Below.refl _ w).alloc (Nat.le_refl _) _)
  have B0 : Blk W (w.heap.size) 27 #[.int .i64 k, .int .i64 op, .string nm, .int .i64 v.k, .int .i64 v.n, .string v.s, .slice A v.l.length c, .slice A' n c'] := by
    rw [hW]
    have := Blk.new w 27 #[.int .i64 k, .int .i64 op, .string nm, .int .i64 v.k, .int .i64 v.n, .string v.s, .slice A v.l.length c, .slice A' n c']
    exact this
  have hsz : W.heap.size = w.heap.size + 1 := by rw [hW]; simp
  rw [← hW]
  clear hW hsz
  have rc0 : W.cell? ⟨w.heap.size, 0, none⟩ = some (.int .i64 k) := B0.cell 0
  have rc1 : W.cell? ⟨w.heap.size, 1, none⟩ = some (.int .i64 op) := B0.cell 1
  have rc2 : W.cell? ⟨w.heap.size, 2, none⟩ = some (.string nm) := B0.cell 2
  have rc3 : W.cell? ⟨w.heap.size, 3, none⟩ = some (.int .i64 v.k) := B0.cell 3
  have rc4 : W.cell? ⟨w.heap.size, 4, none⟩ = some (.int .i64 v.n) := B0.cell 4
  have rc5 : W.cell? ⟨w.heap.size, 5, none⟩ = some (.string v.s) := B0.cell 5
  have rc6 : W.cell? ⟨w.heap.size, 6, none⟩ = some (.slice A v.l.length c) := B0.cell 6
  have rc7 : W.cell? ⟨w.heap.size, 7, none⟩ = some (.slice A' n c') := B0.cell 7
  refine (outside_any _ _ _ W).mono ?_
  rw [HO.out]
  rintro e1 w1 ⟨rfl, rfl⟩
  go_wp2
  go_ret
  exact ⟨ret_int (by rw [partB_out HO.out]), hbw⟩
set_option maxHeartbeats 4000000 in
set_option maxRecDepth 100000 in
theorem partFault_1 (op : Int) (nm : ByteArray) (v : Val) (n : Nat) (hk : Int) (A : Option Addr) (c : Nat) (A' : Option Addr) (c' B : Nat) (w : World) (_hnm : nm.size ≤ maxLen) (hvs : v.s.size ≤ maxLen) (hvl : v.l.length ≤ maxLen) (hn : n ≤ maxLen)
    (hx : Reads w B 1 A v.l.length (numV .i64 v.l)) (hB : B ≤ w.heap.size) (hA : 0 < n → ∃ ad, A' = some ad ∧ ad.block < B ∧ w.cell? ad = some (.int .i64 hk)) :
    Calls Tryz.prog 73 #[.agg #[.int .i64 1, .int .i64 op, .string nm, .int .i64 v.k, .int .i64 v.n, .string v.s, .slice A v.l.length c, .slice A' n c']] w fun e w' => e = .returned (.int .i64 (partB 1 op nm v n hk)) ∧ Below w.heap.size w w' := by
  have HX := Lib.hid (And.intro hx hB)
  have HA := Lib.hid hA
  have HNN := Lib.hid hn
  unfold maxLen at hn
  clear hx hB hA
  obtain ⟨x, hx0⟩ : ∃ x, extraB 1 op nm v n = x := ⟨_, rfl⟩
  have HXB := Lib.hid hx0
  have HEX := Lib.hid (fun w' => extra_any 1 op nm v n A c A' c' w' HNN.out (by omega) (by omega))
  clear hx0
  go_enter Tryz.func73, Tryz.ntmps73
  go_wp2_with fail
  obtain ⟨W, hW⟩ : ∃ W, W = (w.alloc (.cells #[.int .i64 1, .int .i64 op, .string nm, .int .i64 v.k, .int .i64 v.n, .string v.s, .slice A v.l.length c, .slice A' n c'] 27 (0, 0))) := ⟨_, rfl⟩
  have hbw : Below w.heap.size w W := by rw [hW]; exact ((Below.refl _ w).alloc (Nat.le_refl _) _)
  have B0 : Blk W (w.heap.size) 27 #[.int .i64 1, .int .i64 op, .string nm, .int .i64 v.k, .int .i64 v.n, .string v.s, .slice A v.l.length c, .slice A' n c'] := by
    rw [hW]
    have := Blk.new w 27 #[.int .i64 1, .int .i64 op, .string nm, .int .i64 v.k, .int .i64 v.n, .string v.s, .slice A v.l.length c, .slice A' n c']
    exact this
  have hsz : W.heap.size = w.heap.size + 1 := by rw [hW]; simp
  rw [← hW]
  clear hW hsz
  have rc0 : W.cell? ⟨w.heap.size, 0, none⟩ = some (.int .i64 1) := B0.cell 0
  have rc1 : W.cell? ⟨w.heap.size, 1, none⟩ = some (.int .i64 op) := B0.cell 1
  have rc2 : W.cell? ⟨w.heap.size, 2, none⟩ = some (.string nm) := B0.cell 2
  have rc3 : W.cell? ⟨w.heap.size, 3, none⟩ = some (.int .i64 v.k) := B0.cell 3
  have rc4 : W.cell? ⟨w.heap.size, 4, none⟩ = some (.int .i64 v.n) := B0.cell 4
  have rc5 : W.cell? ⟨w.heap.size, 5, none⟩ = some (.string v.s) := B0.cell 5
  have rc6 : W.cell? ⟨w.heap.size, 6, none⟩ = some (.slice A v.l.length c) := B0.cell 6
  have rc7 : W.cell? ⟨w.heap.size, 7, none⟩ = some (.slice A' n c') := B0.cell 7
  refine (outside_any _ _ _ W).mono ?_
  rw [outB_k (by omega) (by omega)]
  rintro e1 w1 ⟨rfl, rfl⟩
  go_wp2_with fail
  refine (HEX.out W).mono ?_
  rw [HXB.out]
  rintro e2 w2 ⟨rfl, hb2⟩
  have B0 := B0.below hb2 B0.lt
  have hbw := hbw.trans (hb2.mono hbw.size)
  clear hb2 rc0 rc1 rc2 rc3 rc4 rc5 rc6 rc7
  have rc0 : w2.cell? ⟨w.heap.size, 0, none⟩ = some (.int .i64 1) := B0.cell 0
  have rc1 : w2.cell? ⟨w.heap.size, 1, none⟩ = some (.int .i64 op) := B0.cell 1
  have rc2 : w2.cell? ⟨w.heap.size, 2, none⟩ = some (.string nm) := B0.cell 2
  have rc3 : w2.cell? ⟨w.heap.size, 3, none⟩ = some (.int .i64 v.k) := B0.cell 3
  have rc4 : w2.cell? ⟨w.heap.size, 4, none⟩ = some (.int .i64 v.n) := B0.cell 4
  have rc5 : w2.cell? ⟨w.heap.size, 5, none⟩ = some (.string v.s) := B0.cell 5
  have rc6 : w2.cell? ⟨w.heap.size, 6, none⟩ = some (.slice A v.l.length c) := B0.cell 6
  have rc7 : w2.cell? ⟨w.heap.size, 7, none⟩ = some (.slice A' n c') := B0.cell 7
  cases x
  rotate_left
  · go_wp2
    go_ret
    exact ⟨ret_int (by rw [partB_x (by omega) (by omega) (by omega) (by omega) HXB.out]), hbw⟩
  have HP := Lib.hid (partB_1 (hk := hk) HXB.out)
  by_cases hv0 : v.k = 0
  · have HG := Lib.hid (HP.out.trans (if_pos (by omega)))
    have bv : (v.k == 0) = true := by rw [beq_iff_eq]; exact hv0
    clear hv0
    go_wp2
    go_ret
    exact ⟨ret_int (by rw [HG.out]), hbw⟩
  have bv0 : (v.k == 0) = false := by rw [beq_eq_false_iff_ne]; exact hv0
  by_cases hv1 : v.k = 1
  · have HG := Lib.hid (HP.out.trans (if_pos (by omega)))
    have bv : (v.k == 1) = true := by rw [beq_iff_eq]; exact hv1
    clear hv1 hv0
    go_wp2
    go_ret
    exact ⟨ret_int (by rw [HG.out]), hbw⟩
  have bv1 : (v.k == 1) = false := by rw [beq_eq_false_iff_ne]; exact hv1
  have HG := Lib.hid (HP.out.trans (if_neg (by omega)))
  clear hv0 hv1
  go_wp2_with fail
  refine (check_any v A c _ w2 hvl hvs ((HX.out.1.more HX.out.2).below hbw) hbw.size).mono ?_
  rintro e w5 ⟨rfl, hb5⟩
  have hbw := hbw.trans (hb5.mono hbw.size)
  go_wp2
  go_ret
  exact ⟨ret_int (by rw [HG.out]), hbw⟩
set_option maxHeartbeats 4000000 in
set_option maxRecDepth 100000 in
theorem partFault_2 (op : Int) (nm : ByteArray) (v : Val) (n : Nat) (hk : Int) (A : Option Addr) (c : Nat) (A' : Option Addr) (c' B : Nat) (w : World) (hnm : nm.size ≤ maxLen) (_hvs : v.s.size ≤ maxLen) (_hvl : v.l.length ≤ maxLen) (hn : n ≤ maxLen)
    (hx : Reads w B 1 A v.l.length (numV .i64 v.l)) (hB : B ≤ w.heap.size) (hA : 0 < n → ∃ ad, A' = some ad ∧ ad.block < B ∧ w.cell? ad = some (.int .i64 hk)) :
    Calls Tryz.prog 73 #[.agg #[.int .i64 2, .int .i64 op, .string nm, .int .i64 v.k, .int .i64 v.n, .string v.s, .slice A v.l.length c, .slice A' n c']] w fun e w' => e = .returned (.int .i64 (partB 2 op nm v n hk)) ∧ Below w.heap.size w w' := by
  have HX := Lib.hid (And.intro hx hB)
  have HA := Lib.hid hA
  have HNN := Lib.hid hn
  unfold maxLen at hn
  clear hx hB hA
  obtain ⟨x, hx0⟩ : ∃ x, extraB 2 op nm v n = x := ⟨_, rfl⟩
  have HXB := Lib.hid hx0
  have HEX := Lib.hid (fun w' => extra_any 2 op nm v n A c A' c' w' HNN.out (by omega) (by omega))
  clear hx0
  go_enter Tryz.func73, Tryz.ntmps73
  go_wp2_with fail
  obtain ⟨W, hW⟩ : ∃ W, W = (w.alloc (.cells #[.int .i64 2, .int .i64 op, .string nm, .int .i64 v.k, .int .i64 v.n, .string v.s, .slice A v.l.length c, .slice A' n c'] 27 (0, 0))) := ⟨_, rfl⟩
  have hbw : Below w.heap.size w W := by rw [hW]; exact ((Below.refl _ w).alloc (Nat.le_refl _) _)
  have B0 : Blk W (w.heap.size) 27 #[.int .i64 2, .int .i64 op, .string nm, .int .i64 v.k, .int .i64 v.n, .string v.s, .slice A v.l.length c, .slice A' n c'] := by
    rw [hW]
    have := Blk.new w 27 #[.int .i64 2, .int .i64 op, .string nm, .int .i64 v.k, .int .i64 v.n, .string v.s, .slice A v.l.length c, .slice A' n c']
    exact this
  have hsz : W.heap.size = w.heap.size + 1 := by rw [hW]; simp
  rw [← hW]
  clear hW hsz
  have rc0 : W.cell? ⟨w.heap.size, 0, none⟩ = some (.int .i64 2) := B0.cell 0
  have rc1 : W.cell? ⟨w.heap.size, 1, none⟩ = some (.int .i64 op) := B0.cell 1
  have rc2 : W.cell? ⟨w.heap.size, 2, none⟩ = some (.string nm) := B0.cell 2
  have rc3 : W.cell? ⟨w.heap.size, 3, none⟩ = some (.int .i64 v.k) := B0.cell 3
  have rc4 : W.cell? ⟨w.heap.size, 4, none⟩ = some (.int .i64 v.n) := B0.cell 4
  have rc5 : W.cell? ⟨w.heap.size, 5, none⟩ = some (.string v.s) := B0.cell 5
  have rc6 : W.cell? ⟨w.heap.size, 6, none⟩ = some (.slice A v.l.length c) := B0.cell 6
  have rc7 : W.cell? ⟨w.heap.size, 7, none⟩ = some (.slice A' n c') := B0.cell 7
  refine (outside_any _ _ _ W).mono ?_
  rw [outB_k (by omega) (by omega)]
  rintro e1 w1 ⟨rfl, rfl⟩
  go_wp2_with fail
  refine (HEX.out W).mono ?_
  rw [HXB.out]
  rintro e2 w2 ⟨rfl, hb2⟩
  have B0 := B0.below hb2 B0.lt
  have hbw := hbw.trans (hb2.mono hbw.size)
  clear hb2 rc0 rc1 rc2 rc3 rc4 rc5 rc6 rc7
  have rc0 : w2.cell? ⟨w.heap.size, 0, none⟩ = some (.int .i64 2) := B0.cell 0
  have rc1 : w2.cell? ⟨w.heap.size, 1, none⟩ = some (.int .i64 op) := B0.cell 1
  have rc2 : w2.cell? ⟨w.heap.size, 2, none⟩ = some (.string nm) := B0.cell 2
  have rc3 : w2.cell? ⟨w.heap.size, 3, none⟩ = some (.int .i64 v.k) := B0.cell 3
  have rc4 : w2.cell? ⟨w.heap.size, 4, none⟩ = some (.int .i64 v.n) := B0.cell 4
  have rc5 : w2.cell? ⟨w.heap.size, 5, none⟩ = some (.string v.s) := B0.cell 5
  have rc6 : w2.cell? ⟨w.heap.size, 6, none⟩ = some (.slice A v.l.length c) := B0.cell 6
  have rc7 : w2.cell? ⟨w.heap.size, 7, none⟩ = some (.slice A' n c') := B0.cell 7
  cases x
  rotate_left
  · go_wp2
    go_ret
    exact ⟨ret_int (by rw [partB_x (by omega) (by omega) (by omega) (by omega) HXB.out]), hbw⟩
  obtain ⟨b, hb⟩ : ∃ b, isNameF nm.data.toList = b := ⟨_, rfl⟩
  have HB := Lib.hid hb
  have HP := Lib.hid (partB_n (hk := hk) (k := 2) (by omega) (by omega) HXB.out)
  clear hb
  go_wp2_with fail
  refine (IsName_any nm w2 hnm).mono ?_
  rw [HB.out]
  rintro e3 w3 ⟨rfl, rfl⟩
  cases b
  · go_wp2
    go_ret
    exact ⟨ret_int (by rw [HP.out, HB.out]; rfl), hbw⟩
  · go_wp2
    go_ret
    exact ⟨ret_int (by rw [HP.out, HB.out]; rfl), hbw⟩
set_option maxHeartbeats 4000000 in
set_option maxRecDepth 100000 in
theorem partFault_3 (op : Int) (nm : ByteArray) (v : Val) (n : Nat) (hk : Int) (A : Option Addr) (c : Nat) (A' : Option Addr) (c' B : Nat) (w : World) (hnm : nm.size ≤ maxLen) (_hvs : v.s.size ≤ maxLen) (_hvl : v.l.length ≤ maxLen) (hn : n ≤ maxLen)
    (hx : Reads w B 1 A v.l.length (numV .i64 v.l)) (hB : B ≤ w.heap.size) (hA : 0 < n → ∃ ad, A' = some ad ∧ ad.block < B ∧ w.cell? ad = some (.int .i64 hk)) :
    Calls Tryz.prog 73 #[.agg #[.int .i64 3, .int .i64 op, .string nm, .int .i64 v.k, .int .i64 v.n, .string v.s, .slice A v.l.length c, .slice A' n c']] w fun e w' => e = .returned (.int .i64 (partB 3 op nm v n hk)) ∧ Below w.heap.size w w' := by
  have HX := Lib.hid (And.intro hx hB)
  have HA := Lib.hid hA
  have HNN := Lib.hid hn
  unfold maxLen at hn
  clear hx hB hA
  obtain ⟨x, hx0⟩ : ∃ x, extraB 3 op nm v n = x := ⟨_, rfl⟩
  have HXB := Lib.hid hx0
  have HEX := Lib.hid (fun w' => extra_any 3 op nm v n A c A' c' w' HNN.out (by omega) (by omega))
  clear hx0
  go_enter Tryz.func73, Tryz.ntmps73
  go_wp2_with fail
  obtain ⟨W, hW⟩ : ∃ W, W = (w.alloc (.cells #[.int .i64 3, .int .i64 op, .string nm, .int .i64 v.k, .int .i64 v.n, .string v.s, .slice A v.l.length c, .slice A' n c'] 27 (0, 0))) := ⟨_, rfl⟩
  have hbw : Below w.heap.size w W := by rw [hW]; exact ((Below.refl _ w).alloc (Nat.le_refl _) _)
  have B0 : Blk W (w.heap.size) 27 #[.int .i64 3, .int .i64 op, .string nm, .int .i64 v.k, .int .i64 v.n, .string v.s, .slice A v.l.length c, .slice A' n c'] := by
    rw [hW]
    have := Blk.new w 27 #[.int .i64 3, .int .i64 op, .string nm, .int .i64 v.k, .int .i64 v.n, .string v.s, .slice A v.l.length c, .slice A' n c']
    exact this
  have hsz : W.heap.size = w.heap.size + 1 := by rw [hW]; simp
  rw [← hW]
  clear hW hsz
  have rc0 : W.cell? ⟨w.heap.size, 0, none⟩ = some (.int .i64 3) := B0.cell 0
  have rc1 : W.cell? ⟨w.heap.size, 1, none⟩ = some (.int .i64 op) := B0.cell 1
  have rc2 : W.cell? ⟨w.heap.size, 2, none⟩ = some (.string nm) := B0.cell 2
  have rc3 : W.cell? ⟨w.heap.size, 3, none⟩ = some (.int .i64 v.k) := B0.cell 3
  have rc4 : W.cell? ⟨w.heap.size, 4, none⟩ = some (.int .i64 v.n) := B0.cell 4
  have rc5 : W.cell? ⟨w.heap.size, 5, none⟩ = some (.string v.s) := B0.cell 5
  have rc6 : W.cell? ⟨w.heap.size, 6, none⟩ = some (.slice A v.l.length c) := B0.cell 6
  have rc7 : W.cell? ⟨w.heap.size, 7, none⟩ = some (.slice A' n c') := B0.cell 7
  refine (outside_any _ _ _ W).mono ?_
  rw [outB_k (by omega) (by omega)]
  rintro e1 w1 ⟨rfl, rfl⟩
  go_wp2_with fail
  refine (HEX.out W).mono ?_
  rw [HXB.out]
  rintro e2 w2 ⟨rfl, hb2⟩
  have B0 := B0.below hb2 B0.lt
  have hbw := hbw.trans (hb2.mono hbw.size)
  clear hb2 rc0 rc1 rc2 rc3 rc4 rc5 rc6 rc7
  have rc0 : w2.cell? ⟨w.heap.size, 0, none⟩ = some (.int .i64 3) := B0.cell 0
  have rc1 : w2.cell? ⟨w.heap.size, 1, none⟩ = some (.int .i64 op) := B0.cell 1
  have rc2 : w2.cell? ⟨w.heap.size, 2, none⟩ = some (.string nm) := B0.cell 2
  have rc3 : w2.cell? ⟨w.heap.size, 3, none⟩ = some (.int .i64 v.k) := B0.cell 3
  have rc4 : w2.cell? ⟨w.heap.size, 4, none⟩ = some (.int .i64 v.n) := B0.cell 4
  have rc5 : w2.cell? ⟨w.heap.size, 5, none⟩ = some (.string v.s) := B0.cell 5
  have rc6 : w2.cell? ⟨w.heap.size, 6, none⟩ = some (.slice A v.l.length c) := B0.cell 6
  have rc7 : w2.cell? ⟨w.heap.size, 7, none⟩ = some (.slice A' n c') := B0.cell 7
  cases x
  rotate_left
  · go_wp2
    go_ret
    exact ⟨ret_int (by rw [partB_x (by omega) (by omega) (by omega) (by omega) HXB.out]), hbw⟩
  obtain ⟨b, hb⟩ : ∃ b, isNameF nm.data.toList = b := ⟨_, rfl⟩
  have HB := Lib.hid hb
  have HP := Lib.hid (partB_n (hk := hk) (k := 3) (by omega) (by omega) HXB.out)
  clear hb
  go_wp2_with fail
  refine (IsName_any nm w2 hnm).mono ?_
  rw [HB.out]
  rintro e3 w3 ⟨rfl, rfl⟩
  cases b
  · go_wp2
    go_ret
    exact ⟨ret_int (by rw [HP.out, HB.out]; rfl), hbw⟩
  · go_wp2
    go_ret
    exact ⟨ret_int (by rw [HP.out, HB.out]; rfl), hbw⟩
set_option maxHeartbeats 4000000 in
set_option maxRecDepth 100000 in
theorem partFault_4 (op : Int) (nm : ByteArray) (v : Val) (n : Nat) (hk : Int) (A : Option Addr) (c : Nat) (A' : Option Addr) (c' B : Nat) (w : World) (_hnm : nm.size ≤ maxLen) (_hvs : v.s.size ≤ maxLen) (_hvl : v.l.length ≤ maxLen) (hn : n ≤ maxLen)
    (hx : Reads w B 1 A v.l.length (numV .i64 v.l)) (hB : B ≤ w.heap.size) (hA : 0 < n → ∃ ad, A' = some ad ∧ ad.block < B ∧ w.cell? ad = some (.int .i64 hk)) :
    Calls Tryz.prog 73 #[.agg #[.int .i64 4, .int .i64 op, .string nm, .int .i64 v.k, .int .i64 v.n, .string v.s, .slice A v.l.length c, .slice A' n c']] w fun e w' => e = .returned (.int .i64 (partB 4 op nm v n hk)) ∧ Below w.heap.size w w' := by
  have HX := Lib.hid (And.intro hx hB)
  have HA := Lib.hid hA
  have HNN := Lib.hid hn
  unfold maxLen at hn
  clear hx hB hA
  obtain ⟨x, hx0⟩ : ∃ x, extraB 4 op nm v n = x := ⟨_, rfl⟩
  have HXB := Lib.hid hx0
  have HEX := Lib.hid (fun w' => extra_any 4 op nm v n A c A' c' w' HNN.out (by omega) (by omega))
  clear hx0
  obtain ⟨o, ho⟩ : ∃ o, outB op 1 39 = o := ⟨_, rfl⟩
  have HO := Lib.hid ho
  clear ho
  go_enter Tryz.func73, Tryz.ntmps73
  go_wp2_with fail
  obtain ⟨W, hW⟩ : ∃ W, W = (w.alloc (.cells #[.int .i64 4, .int .i64 op, .string nm, .int .i64 v.k, .int .i64 v.n, .string v.s, .slice A v.l.length c, .slice A' n c'] 27 (0, 0))) := ⟨_, rfl⟩
  have hbw : Below w.heap.size w W := by rw [hW]; exact ((Below.refl _ w).alloc (Nat.le_refl _) _)
  have B0 : Blk W (w.heap.size) 27 #[.int .i64 4, .int .i64 op, .string nm, .int .i64 v.k, .int .i64 v.n, .string v.s, .slice A v.l.length c, .slice A' n c'] := by
    rw [hW]
    have := Blk.new w 27 #[.int .i64 4, .int .i64 op, .string nm, .int .i64 v.k, .int .i64 v.n, .string v.s, .slice A v.l.length c, .slice A' n c']
    exact this
  have hsz : W.heap.size = w.heap.size + 1 := by rw [hW]; simp
  rw [← hW]
  clear hW hsz
  have rc0 : W.cell? ⟨w.heap.size, 0, none⟩ = some (.int .i64 4) := B0.cell 0
  have rc1 : W.cell? ⟨w.heap.size, 1, none⟩ = some (.int .i64 op) := B0.cell 1
  have rc2 : W.cell? ⟨w.heap.size, 2, none⟩ = some (.string nm) := B0.cell 2
  have rc3 : W.cell? ⟨w.heap.size, 3, none⟩ = some (.int .i64 v.k) := B0.cell 3
  have rc4 : W.cell? ⟨w.heap.size, 4, none⟩ = some (.int .i64 v.n) := B0.cell 4
  have rc5 : W.cell? ⟨w.heap.size, 5, none⟩ = some (.string v.s) := B0.cell 5
  have rc6 : W.cell? ⟨w.heap.size, 6, none⟩ = some (.slice A v.l.length c) := B0.cell 6
  have rc7 : W.cell? ⟨w.heap.size, 7, none⟩ = some (.slice A' n c') := B0.cell 7
  refine (outside_any _ _ _ W).mono ?_
  rw [outB_k (by omega) (by omega)]
  rintro e1 w1 ⟨rfl, rfl⟩
  go_wp2_with fail
  refine (outside_any _ _ _ W).mono ?_
  rw [HO.out]
  rintro e2 w2 ⟨rfl, rfl⟩
  cases o
  rotate_left
  · go_wp2
    go_ret
    exact ⟨ret_int (by rw [partB_4o HO.out]), hbw⟩
  go_wp2_with fail
  refine (HEX.out W).mono ?_
  rw [HXB.out]
  rintro e3 w3 ⟨rfl, hb3⟩
  have B0 := B0.below hb3 B0.lt
  have hbw := hbw.trans (hb3.mono hbw.size)
  clear hb3 rc0 rc1 rc2 rc3 rc4 rc5 rc6 rc7
  have rc0 : w3.cell? ⟨w.heap.size, 0, none⟩ = some (.int .i64 4) := B0.cell 0
  have rc1 : w3.cell? ⟨w.heap.size, 1, none⟩ = some (.int .i64 op) := B0.cell 1
  have rc2 : w3.cell? ⟨w.heap.size, 2, none⟩ = some (.string nm) := B0.cell 2
  have rc3 : w3.cell? ⟨w.heap.size, 3, none⟩ = some (.int .i64 v.k) := B0.cell 3
  have rc4 : w3.cell? ⟨w.heap.size, 4, none⟩ = some (.int .i64 v.n) := B0.cell 4
  have rc5 : w3.cell? ⟨w.heap.size, 5, none⟩ = some (.string v.s) := B0.cell 5
  have rc6 : w3.cell? ⟨w.heap.size, 6, none⟩ = some (.slice A v.l.length c) := B0.cell 6
  have rc7 : w3.cell? ⟨w.heap.size, 7, none⟩ = some (.slice A' n c') := B0.cell 7
  cases x
  rotate_left
  · go_wp2
    go_ret
    exact ⟨ret_int (by rw [partB_x (by omega) (by omega) (fun _ => HO.out) (by omega) HXB.out]), hbw⟩
  have HP := Lib.hid (partB_4 (hk := hk) HO.out HXB.out)
  by_cases ho12 : op = 12
  · have hn1 : n = 1 := by
      have h := HXB.out
      have e := arOf_ask (op := op) (by omega)
      unfold extraB at h
      rw [e] at h
      split at h
      · cases h
      · simp at h; omega
    obtain ⟨ad, rfl, had, hcell⟩ := HA.out (by omega)
    have hck : w3.cell? ad = some (.int .i64 hk) := by rw [hbw.cell (by have := HX.out.2; omega)]; exact hcell
    have hn0 : 0 < n := by omega
    have hn2 : (0 : Int) < n := by omega
    have bo : (op == 12) = true := by rw [beq_iff_eq]; exact ho12
    by_cases hk2 : hk = 2
    · have HG := Lib.hid (HP.out.trans (if_neg (by omega)))
      have bk : (hk != 2) = false := by simp [hk2]
      clear ho12 hk2 hn1
      go_wp2
      go_ret
      exact ⟨ret_int (by rw [HG.out]), hbw⟩
    · have HG := Lib.hid (HP.out.trans (if_pos (by omega)))
      have bk : (hk != 2) = true := by simpa using hk2
      clear ho12 hk2 hn1
      go_wp2
      go_ret
      exact ⟨ret_int (by rw [HG.out]), hbw⟩
  have bo12 : (op == 12) = false := by rw [beq_eq_false_iff_ne]; exact ho12
  by_cases ho13 : op = 13
  · have hn1 : n = 1 := by
      have h := HXB.out
      have e := arOf_ask (op := op) (by omega)
      unfold extraB at h
      rw [e] at h
      split at h
      · cases h
      · simp at h; omega
    obtain ⟨ad, rfl, had, hcell⟩ := HA.out (by omega)
    have hck : w3.cell? ad = some (.int .i64 hk) := by rw [hbw.cell (by have := HX.out.2; omega)]; exact hcell
    have hn0 : 0 < n := by omega
    have hn2 : (0 : Int) < n := by omega
    have bo : (op == 13) = true := by rw [beq_iff_eq]; exact ho13
    by_cases hk2 : hk = 2
    · have HG := Lib.hid (HP.out.trans (if_neg (by omega)))
      have bk : (hk != 2) = false := by simp [hk2]
      clear ho13 hk2 hn1
      go_wp2
      go_ret
      exact ⟨ret_int (by rw [HG.out]), hbw⟩
    · have HG := Lib.hid (HP.out.trans (if_pos (by omega)))
      have bk : (hk != 2) = true := by simpa using hk2
      clear ho13 hk2 hn1
      go_wp2
      go_ret
      exact ⟨ret_int (by rw [HG.out]), hbw⟩
  have bo13 : (op == 13) = false := by rw [beq_eq_false_iff_ne]; exact ho13
  by_cases ho14 : op = 14
  · have hn1 : n = 1 := by
      have h := HXB.out
      have e := arOf_ask (op := op) (by omega)
      unfold extraB at h
      rw [e] at h
      split at h
      · cases h
      · simp at h; omega
    obtain ⟨ad, rfl, had, hcell⟩ := HA.out (by omega)
    have hck : w3.cell? ad = some (.int .i64 hk) := by rw [hbw.cell (by have := HX.out.2; omega)]; exact hcell
    have hn0 : 0 < n := by omega
    have hn2 : (0 : Int) < n := by omega
    have bo : (op == 14) = true := by rw [beq_iff_eq]; exact ho14
    by_cases hk2 : hk = 2
    · have HG := Lib.hid (HP.out.trans (if_neg (by omega)))
      have bk : (hk != 2) = false := by simp [hk2]
      clear ho14 hk2 hn1
      go_wp2
      go_ret
      exact ⟨ret_int (by rw [HG.out]), hbw⟩
    · have HG := Lib.hid (HP.out.trans (if_pos (by omega)))
      have bk : (hk != 2) = true := by simpa using hk2
      clear ho14 hk2 hn1
      go_wp2
      go_ret
      exact ⟨ret_int (by rw [HG.out]), hbw⟩
  have bo14 : (op == 14) = false := by rw [beq_eq_false_iff_ne]; exact ho14
  have HG := Lib.hid (HP.out.trans (if_neg (by omega)))
  clear ho12 ho13 ho14
  go_wp2
  go_ret
  exact ⟨ret_int (by rw [HG.out]), hbw⟩
set_option maxHeartbeats 4000000 in
set_option maxRecDepth 100000 in
theorem partFault_5 (op : Int) (nm : ByteArray) (v : Val) (n : Nat) (hk : Int) (A : Option Addr) (c : Nat) (A' : Option Addr) (c' B : Nat) (w : World) (hnm : nm.size ≤ maxLen) (_hvs : v.s.size ≤ maxLen) (_hvl : v.l.length ≤ maxLen) (hn : n ≤ maxLen)
    (hx : Reads w B 1 A v.l.length (numV .i64 v.l)) (hB : B ≤ w.heap.size) (hA : 0 < n → ∃ ad, A' = some ad ∧ ad.block < B ∧ w.cell? ad = some (.int .i64 hk)) :
    Calls Tryz.prog 73 #[.agg #[.int .i64 5, .int .i64 op, .string nm, .int .i64 v.k, .int .i64 v.n, .string v.s, .slice A v.l.length c, .slice A' n c']] w fun e w' => e = .returned (.int .i64 (partB 5 op nm v n hk)) ∧ Below w.heap.size w w' := by
  have HX := Lib.hid (And.intro hx hB)
  have HA := Lib.hid hA
  have HNN := Lib.hid hn
  unfold maxLen at hn
  clear hx hB hA
  obtain ⟨x, hx0⟩ : ∃ x, extraB 5 op nm v n = x := ⟨_, rfl⟩
  have HXB := Lib.hid hx0
  have HEX := Lib.hid (fun w' => extra_any 5 op nm v n A c A' c' w' HNN.out (by omega) (by omega))
  clear hx0
  obtain ⟨o, ho⟩ : ∃ o, outB op 1 6 = o := ⟨_, rfl⟩
  have HO := Lib.hid ho
  clear ho
  go_enter Tryz.func73, Tryz.ntmps73
  go_wp2_with fail
  obtain ⟨W, hW⟩ : ∃ W, W = (w.alloc (.cells #[.int .i64 5, .int .i64 op, .string nm, .int .i64 v.k, .int .i64 v.n, .string v.s, .slice A v.l.length c, .slice A' n c'] 27 (0, 0))) := ⟨_, rfl⟩
  have hbw : Below w.heap.size w W := by rw [hW]; exact ((Below.refl _ w).alloc (Nat.le_refl _) _)
  have B0 : Blk W (w.heap.size) 27 #[.int .i64 5, .int .i64 op, .string nm, .int .i64 v.k, .int .i64 v.n, .string v.s, .slice A v.l.length c, .slice A' n c'] := by
    rw [hW]
    have := Blk.new w 27 #[.int .i64 5, .int .i64 op, .string nm, .int .i64 v.k, .int .i64 v.n, .string v.s, .slice A v.l.length c, .slice A' n c']
    exact this
  have hsz : W.heap.size = w.heap.size + 1 := by rw [hW]; simp
  rw [← hW]
  clear hW hsz
  have rc0 : W.cell? ⟨w.heap.size, 0, none⟩ = some (.int .i64 5) := B0.cell 0
  have rc1 : W.cell? ⟨w.heap.size, 1, none⟩ = some (.int .i64 op) := B0.cell 1
  have rc2 : W.cell? ⟨w.heap.size, 2, none⟩ = some (.string nm) := B0.cell 2
  have rc3 : W.cell? ⟨w.heap.size, 3, none⟩ = some (.int .i64 v.k) := B0.cell 3
  have rc4 : W.cell? ⟨w.heap.size, 4, none⟩ = some (.int .i64 v.n) := B0.cell 4
  have rc5 : W.cell? ⟨w.heap.size, 5, none⟩ = some (.string v.s) := B0.cell 5
  have rc6 : W.cell? ⟨w.heap.size, 6, none⟩ = some (.slice A v.l.length c) := B0.cell 6
  have rc7 : W.cell? ⟨w.heap.size, 7, none⟩ = some (.slice A' n c') := B0.cell 7
  refine (outside_any _ _ _ W).mono ?_
  rw [outB_k (by omega) (by omega)]
  rintro e1 w1 ⟨rfl, rfl⟩
  go_wp2_with fail
  refine (outside_any _ _ _ W).mono ?_
  rw [HO.out]
  rintro e2 w2 ⟨rfl, rfl⟩
  cases o
  rotate_left
  · go_wp2
    go_ret
    exact ⟨ret_int (by rw [partB_5o HO.out]), hbw⟩
  go_wp2_with fail
  refine (HEX.out W).mono ?_
  rw [HXB.out]
  rintro e3 w3 ⟨rfl, hb3⟩
  have B0 := B0.below hb3 B0.lt
  have hbw := hbw.trans (hb3.mono hbw.size)
  clear hb3 rc0 rc1 rc2 rc3 rc4 rc5 rc6 rc7
  have rc0 : w3.cell? ⟨w.heap.size, 0, none⟩ = some (.int .i64 5) := B0.cell 0
  have rc1 : w3.cell? ⟨w.heap.size, 1, none⟩ = some (.int .i64 op) := B0.cell 1
  have rc2 : w3.cell? ⟨w.heap.size, 2, none⟩ = some (.string nm) := B0.cell 2
  have rc3 : w3.cell? ⟨w.heap.size, 3, none⟩ = some (.int .i64 v.k) := B0.cell 3
  have rc4 : w3.cell? ⟨w.heap.size, 4, none⟩ = some (.int .i64 v.n) := B0.cell 4
  have rc5 : w3.cell? ⟨w.heap.size, 5, none⟩ = some (.string v.s) := B0.cell 5
  have rc6 : w3.cell? ⟨w.heap.size, 6, none⟩ = some (.slice A v.l.length c) := B0.cell 6
  have rc7 : w3.cell? ⟨w.heap.size, 7, none⟩ = some (.slice A' n c') := B0.cell 7
  cases x
  rotate_left
  · go_wp2
    go_ret
    exact ⟨ret_int (by rw [partB_x (by omega) (by omega) (by omega) (fun _ => HO.out) HXB.out]), hbw⟩
  obtain ⟨b, hb⟩ : ∃ b, isNameF nm.data.toList = b := ⟨_, rfl⟩
  have HB := Lib.hid hb
  have HP := Lib.hid (partB_n (hk := hk) (k := 5) (by omega) (fun _ => HO.out) HXB.out)
  clear hb
  go_wp2_with fail
  refine (IsName_any nm w3 hnm).mono ?_
  rw [HB.out]
  rintro e4 w4 ⟨rfl, rfl⟩
  cases b
  · go_wp2
    go_ret
    exact ⟨ret_int (by rw [HP.out, HB.out]; rfl), hbw⟩
  · go_wp2
    go_ret
    exact ⟨ret_int (by rw [HP.out, HB.out]; rfl), hbw⟩
theorem partFault_any (k op : Int) (nm : ByteArray) (v : Val) (n : Nat) (hk : Int) (A : Option Addr) (c : Nat) (A' : Option Addr) (c' B : Nat) (w : World) (hnm : nm.size ≤ maxLen) (hvs : v.s.size ≤ maxLen) (hvl : v.l.length ≤ maxLen) (hn : n ≤ maxLen)
    (hx : Reads w B 1 A v.l.length (numV .i64 v.l)) (hB : B ≤ w.heap.size) (hA : 0 < n → ∃ ad, A' = some ad ∧ ad.block < B ∧ w.cell? ad = some (.int .i64 hk)) :
    Calls Tryz.prog 73 #[.agg #[.int .i64 k, .int .i64 op, .string nm, .int .i64 v.k, .int .i64 v.n, .string v.s, .slice A v.l.length c, .slice A' n c']] w fun e w' => e = .returned (.int .i64 (partB k op nm v n hk)) ∧ Below w.heap.size w w' := by
  by_cases ho : outB k 1 5 = true
  · exact partFault_out k op nm v n hk A c A' c' w ho
  · have h : k = 1 ∨ k = 2 ∨ k = 3 ∨ k = 4 ∨ k = 5 := by simp [outB] at ho; omega
    rcases h with rfl | rfl | rfl | rfl | rfl
    · exact partFault_1 op nm v n hk A c A' c' B w hnm hvs hvl hn hx hB hA
    · exact partFault_2 op nm v n hk A c A' c' B w hnm hvs hvl hn hx hB hA
    · exact partFault_3 op nm v n hk A c A' c' B w hnm hvs hvl hn hx hB hA
    · exact partFault_4 op nm v n hk A c A' c' B w hnm hvs hvl hn hx hB hA
    · exact partFault_5 op nm v n hk A c A' c' B w hnm hvs hvl hn hx hB hA
end Go.Proofs.YtpanbeoelbhhgaaGreatDoor
namespace Go.Proofs.YtpanbeoelbhhgaaGreatDoor
open Go.RowKit
theorem headK_cell {w : World} {B : Nat} {l : List Ex} {A' : Option Addr} {cs : List Value} (hr : Reads w B 8 A' l.length cs) (hi : ∀ i (h : i < l.length), ExAt w B l[i] ((cs.drop (i * 8)).take 8)) :
    0 < l.length → ∃ ad, A' = some ad ∧ ad.block < B ∧ w.cell? ad = some (.int .i64 (headK l)) := by
  intro h
  obtain ⟨ad, rfl, hb, hc⟩ := hr.2 h
  refine ⟨ad, rfl, hb, ?_⟩
  have h0 := hi 0 h
  obtain ⟨a, r, rfl⟩ : ∃ a r, l = a :: r := by cases l with
    | nil => simp at h
    | cons a r => exact ⟨a, r, rfl⟩
  have hcell := hc 0
  rw [show ad.add 0 = ad from rfl] at hcell
  refine hcell _ ?_
  generalize he : (cs.drop (0 * 8)).take 8 = ci at h0
  obtain ⟨-, -, -, -, -, -, -⟩ := h0
  have : ((cs.drop (0 * 8)).take 8)[0]? = some (.int .i64 (headK (a :: r))) := by rw [he]; rfl
  rw [List.getElem?_take, List.getElem?_drop] at this
  simpa using this
set_option maxHeartbeats 2000000 in
set_option maxRecDepth 100000 in
theorem partsFault_any (e : Ex) : ∀ (B : Nat) (cs : List Value) (w : World), ExAt w B e cs → B ≤ w.heap.size →
    Calls Tryz.prog 38 #[.agg cs.toArray] w fun en w' => en = .returned (.int .i64 e.fault) ∧ Below w.heap.size w w' := by
  induction e using Ex.ind with
  | h e ih =>
    rintro B cs w hx hB
    have HXA := Lib.hid hx
    obtain ⟨hn, hs, hl, ha, hx, hr, hi⟩ := hx
    rename_i A c A' c' cs
    have HR := Lib.hid (And.intro hr hi)
    have HI := Lib.hid ih
    have HA := Lib.hid ha
    have HP := Lib.hid (fun w' hb hB'  => partFault_any e.k e.op e.nm e.v e.ar.length (headK e.ar) A c A' c' B w' hn hs hl ha (hx.below hb) hB' (headK_cell (hr.below hb) (fun i h => (hi i h).keep hb)))
    unfold maxLen at ha
    clear hr hi ih hx
    obtain ⟨f, hf⟩ : ∃ f, partF e = f := ⟨_, rfl⟩
    have HF := Lib.hid hf
    have HFE := Lib.hid (fault_eq e)
    clear hf
    show Calls Tryz.prog 38 #[.agg #[.int .i64 e.k, .int .i64 e.op, .string e.nm, .int .i64 e.v.k, .int .i64 e.v.n, .string e.v.s, .slice A e.v.l.length c, .slice A' e.ar.length c']] w _
    go_enter Tryz.func38, Tryz.ntmps38
    go_wp2_with fail
    obtain ⟨W, hW⟩ : ∃ W, W = (w.alloc (.cells #[.int .i64 e.k, .int .i64 e.op, .string e.nm, .int .i64 e.v.k, .int .i64 e.v.n, .string e.v.s, .slice A e.v.l.length c, .slice A' e.ar.length c'] 27 (0, 0))) := ⟨_, rfl⟩
    have hbw : Below w.heap.size w W := by rw [hW]; exact ((Below.refl _ w).alloc (Nat.le_refl _) _)
    have B0 : Blk W (w.heap.size) 27 #[.int .i64 e.k, .int .i64 e.op, .string e.nm, .int .i64 e.v.k, .int .i64 e.v.n, .string e.v.s, .slice A e.v.l.length c, .slice A' e.ar.length c'] := by
      rw [hW]
      have := Blk.new w 27 #[.int .i64 e.k, .int .i64 e.op, .string e.nm, .int .i64 e.v.k, .int .i64 e.v.n, .string e.v.s, .slice A e.v.l.length c, .slice A' e.ar.length c']
      exact this
    have hsz : W.heap.size = w.heap.size + 1 := by rw [hW]; simp
    rw [← hW]
    clear hW hsz
    refine (HP.out W (hbw.mono hB) (Nat.le_trans hB hbw.size)).mono ?_
    rw [show partB e.k e.op e.nm e.v e.ar.length (headK e.ar) = f from HF.out]
    rintro en w1 ⟨rfl, hb1⟩
    have B0 := B0.below hb1 B0.lt
    have hbw := hbw.trans (hb1.mono hbw.size)
    clear hb1 HP
    have rc0 : w1.cell? ⟨w.heap.size, 0, none⟩ = some (.int .i64 e.k) := B0.cell 0
    have rc1 : w1.cell? ⟨w.heap.size, 1, none⟩ = some (.int .i64 e.op) := B0.cell 1
    have rc2 : w1.cell? ⟨w.heap.size, 2, none⟩ = some (.string e.nm) := B0.cell 2
    have rc3 : w1.cell? ⟨w.heap.size, 3, none⟩ = some (.int .i64 e.v.k) := B0.cell 3
    have rc4 : w1.cell? ⟨w.heap.size, 4, none⟩ = some (.int .i64 e.v.n) := B0.cell 4
    have rc5 : w1.cell? ⟨w.heap.size, 5, none⟩ = some (.string e.v.s) := B0.cell 5
    have rc6 : w1.cell? ⟨w.heap.size, 6, none⟩ = some (.slice A e.v.l.length c) := B0.cell 6
    have rc7 : w1.cell? ⟨w.heap.size, 7, none⟩ = some (.slice A' e.ar.length c') := B0.cell 7
    by_cases h0 : f = 0
    rotate_left
    · have bf : (f != 0) = true := by simpa using h0
      have HG := Lib.hid (HFE.out.trans (by rw [HF.out, if_pos h0]))
      clear h0
      go_wp2
      go_ret
      exact ⟨ret_int (by rw [HG.out]), hbw⟩
    subst h0
    have HG := Lib.hid (show e.fault = faultL e.ar from HFE.out.trans (by rw [HF.out, if_neg (by omega)]))
    clear HFE
    go_wp2
    go_loopw [15] (fun i wr => ∃ k : Nat, k ≤ e.ar.length ∧ i = .int .i64 k ∧ Hid (faultL e.ar = faultL (e.ar.drop k)) ∧ Below w.heap.size w wr) (fun i _ => e.ar.length - (intOf i).toNat)
    case atStart => exact ⟨0, Nat.zero_le _, rfl, Lib.hid rfl, hbw⟩
    case round =>
      obtain ⟨k, hk, rfl, HD, hbr⟩ := hrel
      have hsr := hbr.size
      have hbr0 := hbr.mono hB
      by_cases hlt : k < e.ar.length
      · obtain ⟨ad, ci, rfl, hb, hci, hcell⟩ := ExAt.arg (HR.out.1.below hbr0) (fun i h => (HR.out.2 i h).keep hbr0) hlt
        obtain ⟨a, hea⟩ : ∃ a, e.ar[k] = a := ⟨_, rfl⟩
        have ham : a ∈ e.ar := by rw [← hea]; exact List.getElem_mem hlt
        obtain ⟨g, hg⟩ : ∃ g, a.fault = g := ⟨_, rfl⟩
        have HGF := Lib.hid hg
        have HDD := Lib.hid (show faultL (e.ar.drop k) = if g ≠ 0 then g else faultL (e.ar.drop (k + 1)) by
          rw [List.drop_eq_getElem_cons hlt, hea, faultL, hg])
        have HLT := Lib.hid hlt
        have HI1 := Lib.hid (fun w' h1 h2 => HI.out a ham B ci w' h1 h2)
        rw [hea] at hci
        have HCI := Lib.hid hci
        obtain ⟨hn1, hs1, hl1, ha1, hx1, hr1, hi1⟩ := hci
        rename_i A1 c1 A1' c1' cs1
        have fc0 : wr.cell? (ad.add (k * 8)) = some (.int .i64 a.k) := hcell 0 _ rfl
        have fc1 : wr.cell? ⟨(ad.add (k * 8)).block, (ad.add (k * 8)).off + 1, none⟩ = some (.int .i64 a.op) := hcell 1 _ rfl
        have fc2 : wr.cell? ⟨(ad.add (k * 8)).block, (ad.add (k * 8)).off + 2, none⟩ = some (.string a.nm) := hcell 2 _ rfl
        have fc3 : wr.cell? ⟨(ad.add (k * 8)).block, (ad.add (k * 8)).off + 3, none⟩ = some (.int .i64 a.v.k) := hcell 3 _ rfl
        have fc4 : wr.cell? ⟨(ad.add (k * 8)).block, (ad.add (k * 8)).off + 4, none⟩ = some (.int .i64 a.v.n) := hcell 4 _ rfl
        have fc5 : wr.cell? ⟨(ad.add (k * 8)).block, (ad.add (k * 8)).off + 5, none⟩ = some (.string a.v.s) := hcell 5 _ rfl
        have fc6 : wr.cell? ⟨(ad.add (k * 8)).block, (ad.add (k * 8)).off + 6, none⟩ = some (.slice A1 a.v.l.length c1) := hcell 6 _ rfl
        have fc7 : wr.cell? ⟨(ad.add (k * 8)).block, (ad.add (k * 8)).off + 7, none⟩ = some (.slice A1' a.ar.length c1') := hcell 7 _ rfl
        clear hx1 hr1 hi1 hcell hea ham hg
        go_wp2_with fail
        obtain ⟨W, hW⟩ : ∃ W, W = wr.alloc (.cells #[.int .i64 a.k, .int .i64 a.op, .string a.nm, .int .i64 a.v.k, .int .i64 a.v.n, .string a.v.s, .slice A1 a.v.l.length c1, .slice A1' a.ar.length c1'] 27 (0, 0)) := ⟨_, rfl⟩
        have hbW : Below wr.heap.size wr W := hW ▸ (Below.refl _ wr).alloc (Nat.le_refl _) _
        rw [← hW]
        have hb2 := hbr.trans (hbW.mono hsr)
        have hbB := hbW.mono (Nat.le_trans hB hsr)
        clear hW fc0 fc1 fc2 fc3 fc4 fc5 fc6 fc7
        refine (HI1.out W (HCI.out.keep hbB) (Nat.le_trans hB hb2.size)).mono ?_
        rw [HGF.out]
        rintro en w3 ⟨rfl, hb3⟩
        have hbw := hb2.trans (hb3.mono hb2.size)
        clear hb3 hbW hbB hb2 HI1
        by_cases hg0 : g = 0
        rotate_left
        · have bg : (g != 0) = true := by simpa using hg0
          have HFF := Lib.hid (show e.fault = g by rw [HG.out, HD.out, HDD.out, if_pos hg0])
          clear hg0
          go_wp2
          go_ret
          exact ⟨ret_int (by rw [HFF.out]), hbw⟩
        subst hg0
        have HD2 := Lib.hid (show faultL e.ar = faultL (e.ar.drop (k + 1)) by rw [HD.out, HDD.out, if_neg (by omega)])
        go_wp2
        go_roundw
        case rel => exact ⟨k + 1, HLT.out, by go_num, HD2, hbw⟩
        case measure =>
          have := HLT.out
          simp [intOf]
          omega
      · have HFF := Lib.hid (show e.fault = 0 by rw [HG.out, HD.out, List.drop_eq_nil_of_le (by omega)]; rfl)
        go_wp2
        go_ret
        exact ⟨ret_int (by rw [HFF.out]), hbr⟩
end Go.Proofs.YtpanbeoelbhhgaaGreatDoor
