/- The walk of partForm, the reference's: which fault a part of an expression has by itself. · The walks of the faults of all parts of an expression, in both packages. -/
import Derived.Test.YtcmccjcelchlhaaGreatDoorF4
namespace Go.Proofs.YtcmccjcelchlhaaGreatDoor
open Go.RowKit

set_option maxHeartbeats 1000000 in
set_option maxRecDepth 100000 in
theorem partForm_out (k op : Int) (nm : ByteArray) (v : Val) (n : Nat) (hk : Int) (A : Option Addr) (c : Nat) (A' : Option Addr) (c' : Nat) (w : World) (ho : outB k 1 5 = true) :
    Calls Tryz.prog 70 #[.agg #[.int .i64 k, .int .i64 op, .string nm, .int .i64 v.k, .int .i64 v.n, .string v.s, .slice A v.l.length c, .slice A' n c']] w fun e w' => e = .returned (.int .i64 (partB k op nm v n hk)) ∧ Below w.heap.size w w' := by
  have HO := Lib.hid ho
  clear ho
  go_enter Tryz.func70, Tryz.ntmps70
  go_wp2_with fail
  obtain ⟨W, hW⟩ : ∃ W, W = (w.alloc (.cells #[.int .i64 k, .int .i64 op, .string nm, .int .i64 v.k, .int .i64 v.n, .string v.s, .slice A v.l.length c, .slice A' n c'] 27 (0, 0))) := ⟨_, rfl⟩
  have hbw : Below w.heap.size w W := by rw [hW]; exact ((Below.refl _ w).alloc (Nat.le_refl _) _)
  have B0 : Blk W (w.heap.size) 27 #[.int .i64 k, .int .i64 op, .string nm, .int .i64 v.k, .int .i64 v.n, .string v.s, .slice A v.l.length c, .slice A' n c'] := by
    rw [hW]
    have := Blk.new w 27 #[.int .i64 k, .int .i64 op, .string nm, .int .i64 v.k, .int .i64 v.n, .string v.s, .slice A v.l.length c, .slice A' n c']
    exact this
  have hsz : W.heap.size = w.heap.size + 1 := by rw [hW]; simp
  rw [← hW]
  clear hW hsz
  have rc0 : W.cell? ⟨w.heap.size, 0, none⟩ = some (.int .i64 k) := B0.cell 0
  have rc1 : W.cell? ⟨w.heap.size, 1, none⟩ = some (.int .i64 op) := B0.cell 1
  have rc2 : W.cell? ⟨w.heap.size, 2, none⟩ = some (.string nm) := B0.cell 2
  have rc3 : W.cell? ⟨w.heap.size, 3, none⟩ = some (.int .i64 v.k) := B0.cell 3
  have rc4 : W.cell? ⟨w.heap.size, 4, none⟩ = some (.int .i64 v.n) := B0.cell 4
  have rc5 : W.cell? ⟨w.heap.size, 5, none⟩ = some (.string v.s) := B0.cell 5
  have rc6 : W.cell? ⟨w.heap.size, 6, none⟩ = some (.slice A v.l.length c) := B0.cell 6
  have rc7 : W.cell? ⟨w.heap.size, 7, none⟩ = some (.slice A' n c') := B0.cell 7
  refine (within_any _ _ _ W).mono ?_
  rw [HO.out]
  rintro e1 w1 ⟨rfl, rfl⟩
  go_wp2
  go_ret
  exact ⟨ret_int (by rw [partB_out HO.out]), hbw⟩
set_option maxHeartbeats 4000000 in
set_option maxRecDepth 100000 in
theorem partForm_1 (op : Int) (nm : ByteArray) (v : Val) (n : Nat) (hk : Int) (A : Option Addr) (c : Nat) (A' : Option Addr) (c' B : Nat) (w : World) (hnm : nm.size ≤ maxLen) (hvs : v.s.size ≤ maxLen) (hvl : v.l.length ≤ maxLen) (hn : n ≤ maxLen)
    (hx : Reads w B 1 A v.l.length (numV .i64 v.l)) (hB : B ≤ w.heap.size) (hA : 0 < n → ∃ ad, A' = some ad ∧ ad.block < B ∧ w.cell? ad = some (.int .i64 hk)) (hsp : Sp w) (hn4 : n ≤ 1099511627776) :
    Calls Tryz.prog 70 #[.agg #[.int .i64 1, .int .i64 op, .string nm, .int .i64 v.k, .int .i64 v.n, .string v.s, .slice A v.l.length c, .slice A' n c']] w fun e w' => e = .returned (.int .i64 (partB 1 op nm v n hk)) ∧ Below w.heap.size w w' := by
  have HX := Lib.hid (And.intro hx hB)
  have HA := Lib.hid hA
  have HNN := Lib.hid hn
  have HSP := Lib.hid hsp
  clear hsp
  unfold maxLen at hn
  clear hx hB hA
  go_enter Tryz.func70, Tryz.ntmps70
  go_wp2_with fail
  obtain ⟨W, hW⟩ : ∃ W, W = (w.alloc (.cells #[.int .i64 1, .int .i64 op, .string nm, .int .i64 v.k, .int .i64 v.n, .string v.s, .slice A v.l.length c, .slice A' n c'] 27 (0, 0))) := ⟨_, rfl⟩
  have hbw : Below w.heap.size w W := by rw [hW]; exact ((Below.refl _ w).alloc (Nat.le_refl _) _)
  have B0 : Blk W (w.heap.size) 27 #[.int .i64 1, .int .i64 op, .string nm, .int .i64 v.k, .int .i64 v.n, .string v.s, .slice A v.l.length c, .slice A' n c'] := by
    rw [hW]
    have := Blk.new w 27 #[.int .i64 1, .int .i64 op, .string nm, .int .i64 v.k, .int .i64 v.n, .string v.s, .slice A v.l.length c, .slice A' n c']
    exact this
  have hsz : W.heap.size = w.heap.size + 1 := by rw [hW]; simp
  rw [← hW]
  clear hW hsz
  have rc0 : W.cell? ⟨w.heap.size, 0, none⟩ = some (.int .i64 1) := B0.cell 0
  have rc1 : W.cell? ⟨w.heap.size, 1, none⟩ = some (.int .i64 op) := B0.cell 1
  have rc2 : W.cell? ⟨w.heap.size, 2, none⟩ = some (.string nm) := B0.cell 2
  have rc3 : W.cell? ⟨w.heap.size, 3, none⟩ = some (.int .i64 v.k) := B0.cell 3
  have rc4 : W.cell? ⟨w.heap.size, 4, none⟩ = some (.int .i64 v.n) := B0.cell 4
  have rc5 : W.cell? ⟨w.heap.size, 5, none⟩ = some (.string v.s) := B0.cell 5
  have rc6 : W.cell? ⟨w.heap.size, 6, none⟩ = some (.slice A v.l.length c) := B0.cell 6
  have rc7 : W.cell? ⟨w.heap.size, 7, none⟩ = some (.slice A' n c') := B0.cell 7
  refine (within_any _ _ _ W).mono ?_
  rw [outB_k (by omega) (by omega)]
  rintro e1 w1 ⟨rfl, rfl⟩
  by_cases hop : op = 0
  rotate_left
  · have HXB := Lib.hid (show extraB 1 op nm v n = true by unfold extraB; rw [if_pos (.inr (.inl ⟨by omega, .inl hop⟩))])
    have bo : (op != 0) = true := by simpa using hop
    clear hop
    go_wp2
    go_ret
    exact ⟨ret_int (by rw [partB_x (by omega) (by omega) (by omega) (by omega) (HXB.out)]), hbw⟩
  have bo : (op != 0) = false := by simpa using hop
  by_cases hn0 : 0 < n
  · have HXB := Lib.hid (show extraB 1 op nm v n = true by unfold extraB; rw [if_pos (.inr (.inl ⟨by omega, .inr hn0⟩))])
    have hi0 : (0 : Int) < n := by omega
    clear hop
    go_wp2
    go_ret
    exact ⟨ret_int (by rw [partB_x (by omega) (by omega) (by omega) (by omega) (HXB.out)]), hbw⟩
  have hi0 : ¬ (0 : Int) < n := by omega
  have HOP := Lib.hid (And.intro hop hn0)
  clear hop
  by_cases hnn : nm.toList = []
  rotate_left
  · have HXB := Lib.hid (show extraB 1 op nm v n = true by unfold extraB; rw [if_pos (.inr (.inr ⟨by omega, hnn⟩))])
    have se : nm.toList.isEmpty = false := by cases h : nm.toList with
      | nil => exact absurd h hnn
      | cons a r => rfl
    clear hnn
    go_wp2
    go_ret
    exact ⟨ret_int (by rw [partB_x (by omega) (by omega) (by omega) (by omega) (HXB.out)]), hbw⟩
  have se : nm.toList.isEmpty = true := by rw [hnn]; rfl
  have HNL := Lib.hid hnn
  clear hnn
  have HXB := Lib.hid (show extraB 1 op nm v n = false by unfold extraB; rw [if_neg (by simp [HOP.out.1, HNL.out]; have := HOP.out.2; omega), if_neg (by omega)]; simp)
  have HP := Lib.hid (partB_1 (hk := hk) HXB.out)
  by_cases hv0 : v.k = 0
  · have HG := Lib.hid (HP.out.trans (if_pos (by omega)))
    have bv : (v.k == 0) = true := by rw [beq_iff_eq]; exact hv0
    clear hv0
    go_wp2
    go_ret
    exact ⟨ret_int (by rw [HG.out]), hbw⟩
  have bv0 : (v.k == 0) = false := by rw [beq_eq_false_iff_ne]; exact hv0
  by_cases hv1 : v.k = 1
  · have HG := Lib.hid (HP.out.trans (if_pos (by omega)))
    have bv : (v.k == 1) = true := by rw [beq_iff_eq]; exact hv1
    clear hv1 hv0
    go_wp2
    go_ret
    exact ⟨ret_int (by rw [HG.out]), hbw⟩
  have bv1 : (v.k == 1) = false := by rw [beq_eq_false_iff_ne]; exact hv1
  have HG := Lib.hid (HP.out.trans (if_neg (by omega)))
  clear hv0 hv1
  go_wp2_with fail
  refine (rcheck_any v A c _ W hvl hvs ((HX.out.1.more HX.out.2).below hbw) hbw.size).mono ?_
  rintro e w5 ⟨rfl, hb5⟩
  have hbw := hbw.trans (hb5.mono hbw.size)
  go_wp2
  go_ret
  exact ⟨ret_int (by rw [HG.out]), hbw⟩
set_option maxHeartbeats 4000000 in
set_option maxRecDepth 100000 in
theorem partForm_2 (op : Int) (nm : ByteArray) (v : Val) (n : Nat) (hk : Int) (A : Option Addr) (c : Nat) (A' : Option Addr) (c' B : Nat) (w : World) (hnm : nm.size ≤ maxLen) (hvs : v.s.size ≤ maxLen) (hvl : v.l.length ≤ maxLen) (hn : n ≤ maxLen)
    (hx : Reads w B 1 A v.l.length (numV .i64 v.l)) (hB : B ≤ w.heap.size) (hA : 0 < n → ∃ ad, A' = some ad ∧ ad.block < B ∧ w.cell? ad = some (.int .i64 hk)) (hsp : Sp w) (hn4 : n ≤ 1099511627776) :
    Calls Tryz.prog 70 #[.agg #[.int .i64 2, .int .i64 op, .string nm, .int .i64 v.k, .int .i64 v.n, .string v.s, .slice A v.l.length c, .slice A' n c']] w fun e w' => e = .returned (.int .i64 (partB 2 op nm v n hk)) ∧ Below w.heap.size w w' := by
  have HX := Lib.hid (And.intro hx hB)
  have HA := Lib.hid hA
  have HNN := Lib.hid hn
  have HSP := Lib.hid hsp
  clear hsp
  unfold maxLen at hn
  clear hx hB hA
  obtain ⟨z, hz⟩ : ∃ z, zeroVal v = z := ⟨_, rfl⟩
  have HZ := Lib.hid hz
  clear hz
  go_enter Tryz.func70, Tryz.ntmps70
  go_wp2_with fail
  obtain ⟨W, hW⟩ : ∃ W, W = (w.alloc (.cells #[.int .i64 2, .int .i64 op, .string nm, .int .i64 v.k, .int .i64 v.n, .string v.s, .slice A v.l.length c, .slice A' n c'] 27 (0, 0))) := ⟨_, rfl⟩
  have hbw : Below w.heap.size w W := by rw [hW]; exact ((Below.refl _ w).alloc (Nat.le_refl _) _)
  have B0 : Blk W (w.heap.size) 27 #[.int .i64 2, .int .i64 op, .string nm, .int .i64 v.k, .int .i64 v.n, .string v.s, .slice A v.l.length c, .slice A' n c'] := by
    rw [hW]
    have := Blk.new w 27 #[.int .i64 2, .int .i64 op, .string nm, .int .i64 v.k, .int .i64 v.n, .string v.s, .slice A v.l.length c, .slice A' n c']
    exact this
  have hsz : W.heap.size = w.heap.size + 1 := by rw [hW]; simp
  rw [← hW]
  clear hW hsz
  have rc0 : W.cell? ⟨w.heap.size, 0, none⟩ = some (.int .i64 2) := B0.cell 0
  have rc1 : W.cell? ⟨w.heap.size, 1, none⟩ = some (.int .i64 op) := B0.cell 1
  have rc2 : W.cell? ⟨w.heap.size, 2, none⟩ = some (.string nm) := B0.cell 2
  have rc3 : W.cell? ⟨w.heap.size, 3, none⟩ = some (.int .i64 v.k) := B0.cell 3
  have rc4 : W.cell? ⟨w.heap.size, 4, none⟩ = some (.int .i64 v.n) := B0.cell 4
  have rc5 : W.cell? ⟨w.heap.size, 5, none⟩ = some (.string v.s) := B0.cell 5
  have rc6 : W.cell? ⟨w.heap.size, 6, none⟩ = some (.slice A v.l.length c) := B0.cell 6
  have rc7 : W.cell? ⟨w.heap.size, 7, none⟩ = some (.slice A' n c') := B0.cell 7
  refine (within_any _ _ _ W).mono ?_
  rw [outB_k (by omega) (by omega)]
  rintro e1 w1 ⟨rfl, rfl⟩
  by_cases hop : op = 0
  rotate_left
  · have HXB := Lib.hid (show extraB 2 op nm v n = true by unfold extraB; rw [if_pos (.inr (.inl ⟨by omega, .inl hop⟩))])
    have bo : (op != 0) = true := by simpa using hop
    clear hop
    go_wp2
    go_ret
    exact ⟨ret_int (by rw [partB_x (by omega) (by omega) (by omega) (by omega) (HXB.out)]), hbw⟩
  have bo : (op != 0) = false := by simpa using hop
  by_cases hn0 : 0 < n
  · have HXB := Lib.hid (show extraB 2 op nm v n = true by unfold extraB; rw [if_pos (.inr (.inl ⟨by omega, .inr hn0⟩))])
    have hi0 : (0 : Int) < n := by omega
    clear hop
    go_wp2
    go_ret
    exact ⟨ret_int (by rw [partB_x (by omega) (by omega) (by omega) (by omega) (HXB.out)]), hbw⟩
  have hi0 : ¬ (0 : Int) < n := by omega
  have HOP := Lib.hid (And.intro hop hn0)
  clear hop
  go_wp2_with fail
  refine (zero_any v A c W).mono ?_
  rw [HZ.out]
  rintro e2 w2 ⟨rfl, hb2⟩
  have B0 := B0.below hb2 B0.lt
  have hbw := hbw.trans (hb2.mono hbw.size)
  clear hb2 rc0 rc1 rc2 rc3 rc4 rc5 rc6 rc7
  have rc0 : w2.cell? ⟨w.heap.size, 0, none⟩ = some (.int .i64 2) := B0.cell 0
  have rc1 : w2.cell? ⟨w.heap.size, 1, none⟩ = some (.int .i64 op) := B0.cell 1
  have rc2 : w2.cell? ⟨w.heap.size, 2, none⟩ = some (.string nm) := B0.cell 2
  have rc3 : w2.cell? ⟨w.heap.size, 3, none⟩ = some (.int .i64 v.k) := B0.cell 3
  have rc4 : w2.cell? ⟨w.heap.size, 4, none⟩ = some (.int .i64 v.n) := B0.cell 4
  have rc5 : w2.cell? ⟨w.heap.size, 5, none⟩ = some (.string v.s) := B0.cell 5
  have rc6 : w2.cell? ⟨w.heap.size, 6, none⟩ = some (.slice A v.l.length c) := B0.cell 6
  have rc7 : w2.cell? ⟨w.heap.size, 7, none⟩ = some (.slice A' n c') := B0.cell 7
  cases z
  · have HXB := Lib.hid (show extraB 2 op nm v n = true by unfold extraB; rw [if_pos (.inl ⟨by omega, HZ.out⟩)])
    go_wp2
    go_ret
    exact ⟨ret_int (by rw [partB_x (by omega) (by omega) (by omega) (by omega) (HXB.out)]), hbw⟩
  have HXB := Lib.hid (show extraB 2 op nm v n = false by unfold extraB; rw [if_neg (by simp [HOP.out.1, HZ.out]; have := HOP.out.2; omega), if_neg (by omega)]; simp)
  obtain ⟨b, hb⟩ : ∃ b, isNameF nm.data.toList = b := ⟨_, rfl⟩
  have HB := Lib.hid hb
  have HP := Lib.hid (partB_n (hk := hk) (k := 2) (by omega) (by omega) HXB.out)
  clear hb
  go_wp2_with fail
  refine (rIsName_any nm w2 hnm (tabIs_below HSP.out hbw)).mono ?_
  rw [HB.out]
  rintro e3 w3 ⟨rfl, hb3⟩
  have B0 := B0.below hb3 B0.lt
  have hbw := hbw.trans (hb3.mono hbw.size)
  clear hb3 rc0 rc1 rc2 rc3 rc4 rc5 rc6 rc7
  have rc0 : w3.cell? ⟨w.heap.size, 0, none⟩ = some (.int .i64 2) := B0.cell 0
  have rc1 : w3.cell? ⟨w.heap.size, 1, none⟩ = some (.int .i64 op) := B0.cell 1
  have rc2 : w3.cell? ⟨w.heap.size, 2, none⟩ = some (.string nm) := B0.cell 2
  have rc3 : w3.cell? ⟨w.heap.size, 3, none⟩ = some (.int .i64 v.k) := B0.cell 3
  have rc4 : w3.cell? ⟨w.heap.size, 4, none⟩ = some (.int .i64 v.n) := B0.cell 4
  have rc5 : w3.cell? ⟨w.heap.size, 5, none⟩ = some (.string v.s) := B0.cell 5
  have rc6 : w3.cell? ⟨w.heap.size, 6, none⟩ = some (.slice A v.l.length c) := B0.cell 6
  have rc7 : w3.cell? ⟨w.heap.size, 7, none⟩ = some (.slice A' n c') := B0.cell 7
  cases b
  · go_wp2
    go_ret
    exact ⟨ret_int (by rw [HP.out, HB.out]; rfl), hbw⟩
  · go_wp2
    go_ret
    exact ⟨ret_int (by rw [HP.out, HB.out]; rfl), hbw⟩
set_option maxHeartbeats 4000000 in
set_option maxRecDepth 100000 in
theorem partForm_3 (op : Int) (nm : ByteArray) (v : Val) (n : Nat) (hk : Int) (A : Option Addr) (c : Nat) (A' : Option Addr) (c' B : Nat) (w : World) (hnm : nm.size ≤ maxLen) (hvs : v.s.size ≤ maxLen) (hvl : v.l.length ≤ maxLen) (hn : n ≤ maxLen)
    (hx : Reads w B 1 A v.l.length (numV .i64 v.l)) (hB : B ≤ w.heap.size) (hA : 0 < n → ∃ ad, A' = some ad ∧ ad.block < B ∧ w.cell? ad = some (.int .i64 hk)) (hsp : Sp w) (hn4 : n ≤ 1099511627776) :
    Calls Tryz.prog 70 #[.agg #[.int .i64 3, .int .i64 op, .string nm, .int .i64 v.k, .int .i64 v.n, .string v.s, .slice A v.l.length c, .slice A' n c']] w fun e w' => e = .returned (.int .i64 (partB 3 op nm v n hk)) ∧ Below w.heap.size w w' := by
  have HX := Lib.hid (And.intro hx hB)
  have HA := Lib.hid hA
  have HNN := Lib.hid hn
  have HSP := Lib.hid hsp
  clear hsp
  unfold maxLen at hn
  clear hx hB hA
  obtain ⟨z, hz⟩ : ∃ z, zeroVal v = z := ⟨_, rfl⟩
  have HZ := Lib.hid hz
  clear hz
  go_enter Tryz.func70, Tryz.ntmps70
  go_wp2_with fail
  obtain ⟨W, hW⟩ : ∃ W, W = (w.alloc (.cells #[.int .i64 3, .int .i64 op, .string nm, .int .i64 v.k, .int .i64 v.n, .string v.s, .slice A v.l.length c, .slice A' n c'] 27 (0, 0))) := ⟨_, rfl⟩
  have hbw : Below w.heap.size w W := by rw [hW]; exact ((Below.refl _ w).alloc (Nat.le_refl _) _)
  have B0 : Blk W (w.heap.size) 27 #[.int .i64 3, .int .i64 op, .string nm, .int .i64 v.k, .int .i64 v.n, .string v.s, .slice A v.l.length c, .slice A' n c'] := by
    rw [hW]
    have := Blk.new w 27 #[.int .i64 3, .int .i64 op, .string nm, .int .i64 v.k, .int .i64 v.n, .string v.s, .slice A v.l.length c, .slice A' n c']
    exact this
  have hsz : W.heap.size = w.heap.size + 1 := by rw [hW]; simp
  rw [← hW]
  clear hW hsz
  have rc0 : W.cell? ⟨w.heap.size, 0, none⟩ = some (.int .i64 3) := B0.cell 0
  have rc1 : W.cell? ⟨w.heap.size, 1, none⟩ = some (.int .i64 op) := B0.cell 1
  have rc2 : W.cell? ⟨w.heap.size, 2, none⟩ = some (.string nm) := B0.cell 2
  have rc3 : W.cell? ⟨w.heap.size, 3, none⟩ = some (.int .i64 v.k) := B0.cell 3
  have rc4 : W.cell? ⟨w.heap.size, 4, none⟩ = some (.int .i64 v.n) := B0.cell 4
  have rc5 : W.cell? ⟨w.heap.size, 5, none⟩ = some (.string v.s) := B0.cell 5
  have rc6 : W.cell? ⟨w.heap.size, 6, none⟩ = some (.slice A v.l.length c) := B0.cell 6
  have rc7 : W.cell? ⟨w.heap.size, 7, none⟩ = some (.slice A' n c') := B0.cell 7
  refine (within_any _ _ _ W).mono ?_
  rw [outB_k (by omega) (by omega)]
  rintro e1 w1 ⟨rfl, rfl⟩
  by_cases hop : op = 0
  rotate_left
  · have HXB := Lib.hid (show extraB 3 op nm v n = true by unfold extraB; rw [if_pos (.inr (.inl ⟨by omega, .inl hop⟩))])
    have bo : (op != 0) = true := by simpa using hop
    clear hop
    go_wp2
    go_ret
    exact ⟨ret_int (by rw [partB_x (by omega) (by omega) (by omega) (by omega) (HXB.out)]), hbw⟩
  have bo : (op != 0) = false := by simpa using hop
  by_cases hn0 : 0 < n
  · have HXB := Lib.hid (show extraB 3 op nm v n = true by unfold extraB; rw [if_pos (.inr (.inl ⟨by omega, .inr hn0⟩))])
    have hi0 : (0 : Int) < n := by omega
    clear hop
    go_wp2
    go_ret
    exact ⟨ret_int (by rw [partB_x (by omega) (by omega) (by omega) (by omega) (HXB.out)]), hbw⟩
  have hi0 : ¬ (0 : Int) < n := by omega
  have HOP := Lib.hid (And.intro hop hn0)
  clear hop
  go_wp2_with fail
  refine (zero_any v A c W).mono ?_
  rw [HZ.out]
  rintro e2 w2 ⟨rfl, hb2⟩
  have B0 := B0.below hb2 B0.lt
  have hbw := hbw.trans (hb2.mono hbw.size)
  clear hb2 rc0 rc1 rc2 rc3 rc4 rc5 rc6 rc7
  have rc0 : w2.cell? ⟨w.heap.size, 0, none⟩ = some (.int .i64 3) := B0.cell 0
  have rc1 : w2.cell? ⟨w.heap.size, 1, none⟩ = some (.int .i64 op) := B0.cell 1
  have rc2 : w2.cell? ⟨w.heap.size, 2, none⟩ = some (.string nm) := B0.cell 2
  have rc3 : w2.cell? ⟨w.heap.size, 3, none⟩ = some (.int .i64 v.k) := B0.cell 3
  have rc4 : w2.cell? ⟨w.heap.size, 4, none⟩ = some (.int .i64 v.n) := B0.cell 4
  have rc5 : w2.cell? ⟨w.heap.size, 5, none⟩ = some (.string v.s) := B0.cell 5
  have rc6 : w2.cell? ⟨w.heap.size, 6, none⟩ = some (.slice A v.l.length c) := B0.cell 6
  have rc7 : w2.cell? ⟨w.heap.size, 7, none⟩ = some (.slice A' n c') := B0.cell 7
  cases z
  · have HXB := Lib.hid (show extraB 3 op nm v n = true by unfold extraB; rw [if_pos (.inl ⟨by omega, HZ.out⟩)])
    go_wp2
    go_ret
    exact ⟨ret_int (by rw [partB_x (by omega) (by omega) (by omega) (by omega) (HXB.out)]), hbw⟩
  have HXB := Lib.hid (show extraB 3 op nm v n = false by unfold extraB; rw [if_neg (by simp [HOP.out.1, HZ.out]; have := HOP.out.2; omega), if_neg (by omega)]; simp)
  obtain ⟨b, hb⟩ : ∃ b, isNameF nm.data.toList = b := ⟨_, rfl⟩
  have HB := Lib.hid hb
  have HP := Lib.hid (partB_n (hk := hk) (k := 3) (by omega) (by omega) HXB.out)
  clear hb
  go_wp2_with fail
  refine (rIsName_any nm w2 hnm (tabIs_below HSP.out hbw)).mono ?_
  rw [HB.out]
  rintro e3 w3 ⟨rfl, hb3⟩
  have B0 := B0.below hb3 B0.lt
  have hbw := hbw.trans (hb3.mono hbw.size)
  clear hb3 rc0 rc1 rc2 rc3 rc4 rc5 rc6 rc7
  have rc0 : w3.cell? ⟨w.heap.size, 0, none⟩ = some (.int .i64 3) := B0.cell 0
  have rc1 : w3.cell? ⟨w.heap.size, 1, none⟩ = some (.int .i64 op) := B0.cell 1
  have rc2 : w3.cell? ⟨w.heap.size, 2, none⟩ = some (.string nm) := B0.cell 2
  have rc3 : w3.cell? ⟨w.heap.size, 3, none⟩ = some (.int .i64 v.k) := B0.cell 3
  have rc4 : w3.cell? ⟨w.heap.size, 4, none⟩ = some (.int .i64 v.n) := B0.cell 4
  have rc5 : w3.cell? ⟨w.heap.size, 5, none⟩ = some (.string v.s) := B0.cell 5
  have rc6 : w3.cell? ⟨w.heap.size, 6, none⟩ = some (.slice A v.l.length c) := B0.cell 6
  have rc7 : w3.cell? ⟨w.heap.size, 7, none⟩ = some (.slice A' n c') := B0.cell 7
  cases b
  · go_wp2
    go_ret
    exact ⟨ret_int (by rw [HP.out, HB.out]; rfl), hbw⟩
  · go_wp2
    go_ret
    exact ⟨ret_int (by rw [HP.out, HB.out]; rfl), hbw⟩
set_option maxHeartbeats 4000000 in
set_option maxRecDepth 100000 in
theorem partForm_4 (op : Int) (nm : ByteArray) (v : Val) (n : Nat) (hk : Int) (A : Option Addr) (c : Nat) (A' : Option Addr) (c' B : Nat) (w : World) (hnm : nm.size ≤ maxLen) (hvs : v.s.size ≤ maxLen) (hvl : v.l.length ≤ maxLen) (hn : n ≤ maxLen)
    (hx : Reads w B 1 A v.l.length (numV .i64 v.l)) (hB : B ≤ w.heap.size) (hA : 0 < n → ∃ ad, A' = some ad ∧ ad.block < B ∧ w.cell? ad = some (.int .i64 hk)) (hsp : Sp w) (hn4 : n ≤ 1099511627776) :
    Calls Tryz.prog 70 #[.agg #[.int .i64 4, .int .i64 op, .string nm, .int .i64 v.k, .int .i64 v.n, .string v.s, .slice A v.l.length c, .slice A' n c']] w fun e w' => e = .returned (.int .i64 (partB 4 op nm v n hk)) ∧ Below w.heap.size w w' := by
  have HX := Lib.hid (And.intro hx hB)
  have HA := Lib.hid hA
  have HNN := Lib.hid hn
  have HSP := Lib.hid hsp
  clear hsp
  unfold maxLen at hn
  clear hx hB hA
  obtain ⟨o, ho⟩ : ∃ o, outB op 1 39 = o := ⟨_, rfl⟩
  have HO := Lib.hid ho
  clear ho
  obtain ⟨z, hz⟩ : ∃ z, zeroVal v = z := ⟨_, rfl⟩
  have HZ := Lib.hid hz
  clear hz
  go_enter Tryz.func70, Tryz.ntmps70
  go_wp2_with fail
  obtain ⟨W, hW⟩ : ∃ W, W = (w.alloc (.cells #[.int .i64 4, .int .i64 op, .string nm, .int .i64 v.k, .int .i64 v.n, .string v.s, .slice A v.l.length c, .slice A' n c'] 27 (0, 0))) := ⟨_, rfl⟩
  have hbw : Below w.heap.size w W := by rw [hW]; exact ((Below.refl _ w).alloc (Nat.le_refl _) _)
  have B0 : Blk W (w.heap.size) 27 #[.int .i64 4, .int .i64 op, .string nm, .int .i64 v.k, .int .i64 v.n, .string v.s, .slice A v.l.length c, .slice A' n c'] := by
    rw [hW]
    have := Blk.new w 27 #[.int .i64 4, .int .i64 op, .string nm, .int .i64 v.k, .int .i64 v.n, .string v.s, .slice A v.l.length c, .slice A' n c']
    exact this
  have hsz : W.heap.size = w.heap.size + 1 := by rw [hW]; simp
  rw [← hW]
  clear hW hsz
  have rc0 : W.cell? ⟨w.heap.size, 0, none⟩ = some (.int .i64 4) := B0.cell 0
  have rc1 : W.cell? ⟨w.heap.size, 1, none⟩ = some (.int .i64 op) := B0.cell 1
  have rc2 : W.cell? ⟨w.heap.size, 2, none⟩ = some (.string nm) := B0.cell 2
  have rc3 : W.cell? ⟨w.heap.size, 3, none⟩ = some (.int .i64 v.k) := B0.cell 3
  have rc4 : W.cell? ⟨w.heap.size, 4, none⟩ = some (.int .i64 v.n) := B0.cell 4
  have rc5 : W.cell? ⟨w.heap.size, 5, none⟩ = some (.string v.s) := B0.cell 5
  have rc6 : W.cell? ⟨w.heap.size, 6, none⟩ = some (.slice A v.l.length c) := B0.cell 6
  have rc7 : W.cell? ⟨w.heap.size, 7, none⟩ = some (.slice A' n c') := B0.cell 7
  refine (within_any _ _ _ W).mono ?_
  rw [outB_k (by omega) (by omega)]
  rintro e1 w1 ⟨rfl, rfl⟩
  go_wp2_with fail
  refine (within_any _ _ _ W).mono ?_
  rw [HO.out]
  rintro e2 w2 ⟨rfl, rfl⟩
  cases o
  rotate_left
  · go_wp2
    go_ret
    exact ⟨ret_int (by rw [partB_4o HO.out]), hbw⟩
  by_cases hnn : nm.toList = []
  rotate_left
  · have HXB := Lib.hid (show extraB 4 op nm v n = true by unfold extraB; rw [if_pos (.inr (.inr ⟨by omega, hnn⟩))])
    have se : nm.toList.isEmpty = false := by cases h : nm.toList with
      | nil => exact absurd h hnn
      | cons a r => rfl
    clear hnn
    go_wp2
    go_ret
    exact ⟨ret_int (by rw [partB_x (by omega) (by omega) (fun _ => HO.out) (by omega) (HXB.out)]), hbw⟩
  have se : nm.toList.isEmpty = true := by rw [hnn]; rfl
  have HNL := Lib.hid hnn
  clear hnn
  go_wp2_with fail
  refine (zero_any v A c W).mono ?_
  rw [HZ.out]
  rintro e3 w3 ⟨rfl, hb3⟩
  have B0 := B0.below hb3 B0.lt
  have hbw := hbw.trans (hb3.mono hbw.size)
  clear hb3 rc0 rc1 rc2 rc3 rc4 rc5 rc6 rc7
  have rc0 : w3.cell? ⟨w.heap.size, 0, none⟩ = some (.int .i64 4) := B0.cell 0
  have rc1 : w3.cell? ⟨w.heap.size, 1, none⟩ = some (.int .i64 op) := B0.cell 1
  have rc2 : w3.cell? ⟨w.heap.size, 2, none⟩ = some (.string nm) := B0.cell 2
  have rc3 : w3.cell? ⟨w.heap.size, 3, none⟩ = some (.int .i64 v.k) := B0.cell 3
  have rc4 : w3.cell? ⟨w.heap.size, 4, none⟩ = some (.int .i64 v.n) := B0.cell 4
  have rc5 : w3.cell? ⟨w.heap.size, 5, none⟩ = some (.string v.s) := B0.cell 5
  have rc6 : w3.cell? ⟨w.heap.size, 6, none⟩ = some (.slice A v.l.length c) := B0.cell 6
  have rc7 : w3.cell? ⟨w.heap.size, 7, none⟩ = some (.slice A' n c') := B0.cell 7
  cases z
  · have HXB := Lib.hid (show extraB 4 op nm v n = true by unfold extraB; rw [if_pos (.inl ⟨by omega, HZ.out⟩)])
    go_wp2
    go_ret
    exact ⟨ret_int (by rw [partB_x (by omega) (by omega) (fun _ => HO.out) (by omega) (HXB.out)]), hbw⟩
  have hop1 : 1 ≤ op ∧ op ≤ 39 := by have h := HO.out; simp [outB] at h; omega
  obtain ⟨hop1, hop2⟩ := hop1
  obtain ⟨r, hr⟩ : ∃ r, rarB op n = r := ⟨_, rfl⟩
  have HR := Lib.hid hr
  have HXB0 := Lib.hid (show extraB 4 op nm v n = !r by
    rw [← hr, rar_eq op n hop1 hop2 hn4]
    unfold extraB
    rw [if_neg (by simp [HZ.out, HNL.out]), if_neg (by omega)]
    simp [outB])
  clear hr
  go_wp2_with fail
  refine (rarity_any op n w3 hop1 hop2 HNN.out).mono ?_
  rw [HR.out]
  rintro e4 w4 ⟨rfl, hb4⟩
  have B0 := B0.below hb4 B0.lt
  have hbw := hbw.trans (hb4.mono hbw.size)
  clear hb4 rc0 rc1 rc2 rc3 rc4 rc5 rc6 rc7
  have rc0 : w4.cell? ⟨w.heap.size, 0, none⟩ = some (.int .i64 4) := B0.cell 0
  have rc1 : w4.cell? ⟨w.heap.size, 1, none⟩ = some (.int .i64 op) := B0.cell 1
  have rc2 : w4.cell? ⟨w.heap.size, 2, none⟩ = some (.string nm) := B0.cell 2
  have rc3 : w4.cell? ⟨w.heap.size, 3, none⟩ = some (.int .i64 v.k) := B0.cell 3
  have rc4 : w4.cell? ⟨w.heap.size, 4, none⟩ = some (.int .i64 v.n) := B0.cell 4
  have rc5 : w4.cell? ⟨w.heap.size, 5, none⟩ = some (.string v.s) := B0.cell 5
  have rc6 : w4.cell? ⟨w.heap.size, 6, none⟩ = some (.slice A v.l.length c) := B0.cell 6
  have rc7 : w4.cell? ⟨w.heap.size, 7, none⟩ = some (.slice A' n c') := B0.cell 7
  cases r
  · have HXB := Lib.hid (HXB0.out)
    go_wp2
    go_ret
    exact ⟨ret_int (by rw [partB_x (by omega) (by omega) (fun _ => HO.out) (by omega) (HXB.out)]), hbw⟩
  have HXB := Lib.hid (show extraB 4 op nm v n = false from HXB0.out)
  have HP := Lib.hid (partB_4 (hk := hk) HO.out HXB.out)
  obtain ⟨q, hq⟩ : ∃ q, outB op 12 14 = q := ⟨_, rfl⟩
  have HQ := Lib.hid hq
  clear hq
  go_wp2_with fail
  refine (within_any _ _ _ w4).mono ?_
  rw [HQ.out]
  rintro e5 w5 ⟨rfl, rfl⟩
  cases q
  rotate_left
  · have HG := Lib.hid (HP.out.trans (if_neg (by have h := HQ.out; simp [outB] at h; omega)))
    go_wp2
    go_ret
    exact ⟨ret_int (by rw [HG.out]), hbw⟩
  have hqq : 12 ≤ op ∧ op ≤ 14 := by have h := HQ.out; simp [outB] at h; omega
  obtain ⟨hq1, hq2⟩ := hqq
  have hn1 : n = 1 := by
    have h := HXB.out
    have e := arOf_ask (op := op) (by omega)
    unfold extraB at h
    rw [e] at h
    split at h
    · cases h
    · simp at h; omega
  obtain ⟨ad, rfl, had, hcell⟩ := HA.out (by omega)
  have hck : w4.cell? ad = some (.int .i64 hk) := by rw [hbw.cell (by have := HX.out.2; omega)]; exact hcell
  have hn0 : 0 < n := by omega
  have hn2 : (0 : Int) < n := by omega
  by_cases hk2 : hk = 2
  · have HG := Lib.hid (HP.out.trans (if_neg (by omega)))
    have bk : (hk != 2) = false := by simp [hk2]
    clear hk2 hn1
    go_wp2
    go_ret
    exact ⟨ret_int (by rw [HG.out]), hbw⟩
  · have HG := Lib.hid (HP.out.trans (if_pos (by omega)))
    have bk : (hk != 2) = true := by simpa using hk2
    clear hk2 hn1
    go_wp2
    go_ret
    exact ⟨ret_int (by rw [HG.out]), hbw⟩
set_option maxHeartbeats 4000000 in
set_option maxRecDepth 100000 in
theorem partForm_5 (op : Int) (nm : ByteArray) (v : Val) (n : Nat) (hk : Int) (A : Option Addr) (c : Nat) (A' : Option Addr) (c' B : Nat) (w : World) (hnm : nm.size ≤ maxLen) (hvs : v.s.size ≤ maxLen) (hvl : v.l.length ≤ maxLen) (hn : n ≤ maxLen)
    (hx : Reads w B 1 A v.l.length (numV .i64 v.l)) (hB : B ≤ w.heap.size) (hA : 0 < n → ∃ ad, A' = some ad ∧ ad.block < B ∧ w.cell? ad = some (.int .i64 hk)) (hsp : Sp w) (hn4 : n ≤ 1099511627776) :
    Calls Tryz.prog 70 #[.agg #[.int .i64 5, .int .i64 op, .string nm, .int .i64 v.k, .int .i64 v.n, .string v.s, .slice A v.l.length c, .slice A' n c']] w fun e w' => e = .returned (.int .i64 (partB 5 op nm v n hk)) ∧ Below w.heap.size w w' := by
  have HX := Lib.hid (And.intro hx hB)
  have HA := Lib.hid hA
  have HNN := Lib.hid hn
  have HSP := Lib.hid hsp
  clear hsp
  unfold maxLen at hn
  clear hx hB hA
  obtain ⟨o, ho⟩ : ∃ o, outB op 1 6 = o := ⟨_, rfl⟩
  have HO := Lib.hid ho
  clear ho
  obtain ⟨z, hz⟩ : ∃ z, zeroVal v = z := ⟨_, rfl⟩
  have HZ := Lib.hid hz
  clear hz
  go_enter Tryz.func70, Tryz.ntmps70
  go_wp2_with fail
  obtain ⟨W, hW⟩ : ∃ W, W = (w.alloc (.cells #[.int .i64 5, .int .i64 op, .string nm, .int .i64 v.k, .int .i64 v.n, .string v.s, .slice A v.l.length c, .slice A' n c'] 27 (0, 0))) := ⟨_, rfl⟩
  have hbw : Below w.heap.size w W := by rw [hW]; exact ((Below.refl _ w).alloc (Nat.le_refl _) _)
  have B0 : Blk W (w.heap.size) 27 #[.int .i64 5, .int .i64 op, .string nm, .int .i64 v.k, .int .i64 v.n, .string v.s, .slice A v.l.length c, .slice A' n c'] := by
    rw [hW]
    have := Blk.new w 27 #[.int .i64 5, .int .i64 op, .string nm, .int .i64 v.k, .int .i64 v.n, .string v.s, .slice A v.l.length c, .slice A' n c']
    exact this
  have hsz : W.heap.size = w.heap.size + 1 := by rw [hW]; simp
  rw [← hW]
  clear hW hsz
  have rc0 : W.cell? ⟨w.heap.size, 0, none⟩ = some (.int .i64 5) := B0.cell 0
  have rc1 : W.cell? ⟨w.heap.size, 1, none⟩ = some (.int .i64 op) := B0.cell 1
  have rc2 : W.cell? ⟨w.heap.size, 2, none⟩ = some (.string nm) := B0.cell 2
  have rc3 : W.cell? ⟨w.heap.size, 3, none⟩ = some (.int .i64 v.k) := B0.cell 3
  have rc4 : W.cell? ⟨w.heap.size, 4, none⟩ = some (.int .i64 v.n) := B0.cell 4
  have rc5 : W.cell? ⟨w.heap.size, 5, none⟩ = some (.string v.s) := B0.cell 5
  have rc6 : W.cell? ⟨w.heap.size, 6, none⟩ = some (.slice A v.l.length c) := B0.cell 6
  have rc7 : W.cell? ⟨w.heap.size, 7, none⟩ = some (.slice A' n c') := B0.cell 7
  refine (within_any _ _ _ W).mono ?_
  rw [outB_k (by omega) (by omega)]
  rintro e1 w1 ⟨rfl, rfl⟩
  go_wp2_with fail
  refine (within_any _ _ _ W).mono ?_
  rw [HO.out]
  rintro e2 w2 ⟨rfl, rfl⟩
  cases o
  rotate_left
  · go_wp2
    go_ret
    exact ⟨ret_int (by rw [partB_5o HO.out]), hbw⟩
  go_wp2_with fail
  refine (zero_any v A c W).mono ?_
  rw [HZ.out]
  rintro e3 w3 ⟨rfl, hb3⟩
  have B0 := B0.below hb3 B0.lt
  have hbw := hbw.trans (hb3.mono hbw.size)
  clear hb3 rc0 rc1 rc2 rc3 rc4 rc5 rc6 rc7
  have rc0 : w3.cell? ⟨w.heap.size, 0, none⟩ = some (.int .i64 5) := B0.cell 0
  have rc1 : w3.cell? ⟨w.heap.size, 1, none⟩ = some (.int .i64 op) := B0.cell 1
  have rc2 : w3.cell? ⟨w.heap.size, 2, none⟩ = some (.string nm) := B0.cell 2
  have rc3 : w3.cell? ⟨w.heap.size, 3, none⟩ = some (.int .i64 v.k) := B0.cell 3
  have rc4 : w3.cell? ⟨w.heap.size, 4, none⟩ = some (.int .i64 v.n) := B0.cell 4
  have rc5 : w3.cell? ⟨w.heap.size, 5, none⟩ = some (.string v.s) := B0.cell 5
  have rc6 : w3.cell? ⟨w.heap.size, 6, none⟩ = some (.slice A v.l.length c) := B0.cell 6
  have rc7 : w3.cell? ⟨w.heap.size, 7, none⟩ = some (.slice A' n c') := B0.cell 7
  cases z
  · have HXB := Lib.hid (show extraB 5 op nm v n = true by unfold extraB; rw [if_pos (.inl ⟨by omega, HZ.out⟩)])
    go_wp2
    go_ret
    exact ⟨ret_int (by rw [partB_x (by omega) (by omega) (by omega) (fun _ => HO.out) (HXB.out)]), hbw⟩
  by_cases hn1 : n = 1
  rotate_left
  · have HXB := Lib.hid (show extraB 5 op nm v n = true by unfold extraB; rw [if_neg (by simp [HZ.out]), if_pos rfl]; simpa using hn1)
    have b1 : ((n : Int) != 1) = true := by simp; omega
    clear hn1
    go_wp2
    go_ret
    exact ⟨ret_int (by rw [partB_x (by omega) (by omega) (by omega) (fun _ => HO.out) (HXB.out)]), hbw⟩
  have HXB := Lib.hid (show extraB 5 op nm v n = false by unfold extraB; rw [if_neg (by simp [HZ.out]), if_pos rfl]; simpa using hn1)
  have b1 : ((n : Int) != 1) = false := by simp; omega
  clear hn1
  obtain ⟨b, hb⟩ : ∃ b, isNameF nm.data.toList = b := ⟨_, rfl⟩
  have HB := Lib.hid hb
  have HP := Lib.hid (partB_n (hk := hk) (k := 5) (by omega) (fun _ => HO.out) HXB.out)
  clear hb
  go_wp2_with fail
  refine (rIsName_any nm w3 hnm (tabIs_below HSP.out hbw)).mono ?_
  rw [HB.out]
  rintro e4 w4 ⟨rfl, hb4⟩
  have B0 := B0.below hb4 B0.lt
  have hbw := hbw.trans (hb4.mono hbw.size)
  clear hb4 rc0 rc1 rc2 rc3 rc4 rc5 rc6 rc7
  have rc0 : w4.cell? ⟨w.heap.size, 0, none⟩ = some (.int .i64 5) := B0.cell 0
  have rc1 : w4.cell? ⟨w.heap.size, 1, none⟩ = some (.int .i64 op) := B0.cell 1
  have rc2 : w4.cell? ⟨w.heap.size, 2, none⟩ = some (.string nm) := B0.cell 2
  have rc3 : w4.cell? ⟨w.heap.size, 3, none⟩ = some (.int .i64 v.k) := B0.cell 3
  have rc4 : w4.cell? ⟨w.heap.size, 4, none⟩ = some (.int .i64 v.n) := B0.cell 4
  have rc5 : w4.cell? ⟨w.heap.size, 5, none⟩ = some (.string v.s) := B0.cell 5
  have rc6 : w4.cell? ⟨w.heap.size, 6, none⟩ = some (.slice A v.l.length c) := B0.cell 6
  have rc7 : w4.cell? ⟨w.heap.size, 7, none⟩ = some (.slice A' n c') := B0.cell 7
  cases b
  · go_wp2
    go_ret
    exact ⟨ret_int (by rw [HP.out, HB.out]; rfl), hbw⟩
  · go_wp2
    go_ret
    exact ⟨ret_int (by rw [HP.out, HB.out]; rfl), hbw⟩
theorem partForm_any (k op : Int) (nm : ByteArray) (v : Val) (n : Nat) (hk : Int) (A : Option Addr) (c : Nat) (A' : Option Addr) (c' B : Nat) (w : World) (hnm : nm.size ≤ maxLen) (hvs : v.s.size ≤ maxLen) (hvl : v.l.length ≤ maxLen) (hn : n ≤ maxLen)
    (hx : Reads w B 1 A v.l.length (numV .i64 v.l)) (hB : B ≤ w.heap.size) (hA : 0 < n → ∃ ad, A' = some ad ∧ ad.block < B ∧ w.cell? ad = some (.int .i64 hk)) (hsp : Sp w) (hn4 : n ≤ 1099511627776) :
    Calls Tryz.prog 70 #[.agg #[.int .i64 k, .int .i64 op, .string nm, .int .i64 v.k, .int .i64 v.n, .string v.s, .slice A v.l.length c, .slice A' n c']] w fun e w' => e = .returned (.int .i64 (partB k op nm v n hk)) ∧ Below w.heap.size w w' := by
  by_cases ho : outB k 1 5 = true
  · exact partForm_out k op nm v n hk A c A' c' w ho
  · have h : k = 1 ∨ k = 2 ∨ k = 3 ∨ k = 4 ∨ k = 5 := by simp [outB] at ho; omega
    rcases h with rfl | rfl | rfl | rfl | rfl
    · exact partForm_1 op nm v n hk A c A' c' B w hnm hvs hvl hn hx hB hA hsp hn4
    · exact partForm_2 op nm v n hk A c A' c' B w hnm hvs hvl hn hx hB hA hsp hn4
    · exact partForm_3 op nm v n hk A c A' c' B w hnm hvs hvl hn hx hB hA hsp hn4
    · exact partForm_4 op nm v n hk A c A' c' B w hnm hvs hvl hn hx hB hA hsp hn4
    · exact partForm_5 op nm v n hk A c A' c' B w hnm hvs hvl hn hx hB hA hsp hn4
end Go.Proofs.YtcmccjcelchlhaaGreatDoor
namespace Go.Proofs.YtcmccjcelchlhaaGreatDoor
open Go.RowKit

theorem headK_cell {w : World} {B : Nat} {l : List Ex} {A' : Option Addr} {cs : List Value} (hr : Reads w B 8 A' l.length cs) (hi : ∀ i (h : i < l.length), ExAt w B l[i] ((cs.drop (i * 8)).take 8)) :
    0 < l.length → ∃ ad, A' = some ad ∧ ad.block < B ∧ w.cell? ad = some (.int .i64 (headK l)) := by
  intro h
  obtain ⟨ad, rfl, hb, hc⟩ := hr.2 h
  refine ⟨ad, rfl, hb, ?_⟩
  have h0 := hi 0 h
  obtain ⟨a, r, rfl⟩ : ∃ a r, l = a :: r := by cases l with
    | nil => simp at h
    | cons a r => exact ⟨a, r, rfl⟩
  have hcell := hc 0
  rw [show ad.add 0 = ad from rfl] at hcell
  refine hcell _ ?_
  generalize he : (cs.drop (0 * 8)).take 8 = ci at h0
  obtain ⟨-, -, -, -, -, -, -⟩ := h0
  have : ((cs.drop (0 * 8)).take 8)[0]? = some (.int .i64 (headK (a :: r))) := by rw [he]; rfl
  rw [List.getElem?_take, List.getElem?_drop] at this
  simpa using this
set_option maxHeartbeats 2000000 in
set_option maxRecDepth 100000 in
theorem partsFault_any (e : Ex) : ∀ (B : Nat) (cs : List Value) (w : World), ExAt w B e cs → B ≤ w.heap.size →
    Calls Tryz.prog 28 #[.agg cs.toArray] w fun en w' => en = .returned (.int .i64 e.fault) ∧ Below w.heap.size w w' := by
  induction e using Ex.ind with
  | h e ih =>
    rintro B cs w hx hB
    have HXA := Lib.hid hx
    obtain ⟨hn, hs, hl, ha, hx, hr, hi⟩ := hx
    rename_i A c A' c' cs
    have HR := Lib.hid (And.intro hr hi)
    have HI := Lib.hid ih
    have HA := Lib.hid ha
    have HP := Lib.hid (fun w' hb hB'  => partFault_any e.k e.op e.nm e.v e.ar.length (headK e.ar) A c A' c' B w' hn hs hl ha (hx.below hb) hB' (headK_cell (hr.below hb) (fun i h => (hi i h).keep hb)))
    unfold maxLen at ha
    clear hr hi ih hx
    obtain ⟨f, hf⟩ : ∃ f, partF e = f := ⟨_, rfl⟩
    have HF := Lib.hid hf
    have HFE := Lib.hid (fault_eq e)
    clear hf
    show Calls Tryz.prog 28 #[.agg #[.int .i64 e.k, .int .i64 e.op, .string e.nm, .int .i64 e.v.k, .int .i64 e.v.n, .string e.v.s, .slice A e.v.l.length c, .slice A' e.ar.length c']] w _
    go_enter Tryz.func28, Tryz.ntmps28
    go_wp2_with fail
    obtain ⟨W, hW⟩ : ∃ W, W = (w.alloc (.cells #[.int .i64 e.k, .int .i64 e.op, .string e.nm, .int .i64 e.v.k, .int .i64 e.v.n, .string e.v.s, .slice A e.v.l.length c, .slice A' e.ar.length c'] 27 (0, 0))) := ⟨_, rfl⟩
    have hbw : Below w.heap.size w W := by rw [hW]; exact ((Below.refl _ w).alloc (Nat.le_refl _) _)
    have B0 : Blk W (w.heap.size) 27 #[.int .i64 e.k, .int .i64 e.op, .string e.nm, .int .i64 e.v.k, .int .i64 e.v.n, .string e.v.s, .slice A e.v.l.length c, .slice A' e.ar.length c'] := by
      rw [hW]
      have := Blk.new w 27 #[.int .i64 e.k, .int .i64 e.op, .string e.nm, .int .i64 e.v.k, .int .i64 e.v.n, .string e.v.s, .slice A e.v.l.length c, .slice A' e.ar.length c']
      exact this
    have hsz : W.heap.size = w.heap.size + 1 := by rw [hW]; simp
    rw [← hW]
    clear hW hsz
    refine (HP.out W (hbw.mono hB) (Nat.le_trans hB hbw.size)).mono ?_
    rw [show partB e.k e.op e.nm e.v e.ar.length (headK e.ar) = f from HF.out]
    rintro en w1 ⟨rfl, hb1⟩
    have B0 := B0.below hb1 B0.lt
    have hbw := hbw.trans (hb1.mono hbw.size)
    clear hb1 HP
    have rc0 : w1.cell? ⟨w.heap.size, 0, none⟩ = some (.int .i64 e.k) := B0.cell 0
    have rc1 : w1.cell? ⟨w.heap.size, 1, none⟩ = some (.int .i64 e.op) := B0.cell 1
    have rc2 : w1.cell? ⟨w.heap.size, 2, none⟩ = some (.string e.nm) := B0.cell 2
    have rc3 : w1.cell? ⟨w.heap.size, 3, none⟩ = some (.int .i64 e.v.k) := B0.cell 3
    have rc4 : w1.cell? ⟨w.heap.size, 4, none⟩ = some (.int .i64 e.v.n) := B0.cell 4
    have rc5 : w1.cell? ⟨w.heap.size, 5, none⟩ = some (.string e.v.s) := B0.cell 5
    have rc6 : w1.cell? ⟨w.heap.size, 6, none⟩ = some (.slice A e.v.l.length c) := B0.cell 6
    have rc7 : w1.cell? ⟨w.heap.size, 7, none⟩ = some (.slice A' e.ar.length c') := B0.cell 7
    by_cases h0 : f = 0
    rotate_left
    · have bf : (f != 0) = true := by simpa using h0
      have HG := Lib.hid (HFE.out.trans (by rw [HF.out, if_pos h0]))
      clear h0
      go_wp2
      go_ret
      exact ⟨ret_int (by rw [HG.out]), hbw⟩
    subst h0
    have HG := Lib.hid (show e.fault = faultL e.ar from HFE.out.trans (by rw [HF.out, if_neg (by omega)]))
    clear HFE
    go_wp2
    go_loopw [15] (fun i wr => ∃ k : Nat, k ≤ e.ar.length ∧ i = .int .i64 k ∧ Hid (faultL e.ar = faultL (e.ar.drop k)) ∧ Below w.heap.size w wr) (fun i _ => e.ar.length - (intOf i).toNat)
    case atStart => exact ⟨0, Nat.zero_le _, rfl, Lib.hid rfl, hbw⟩
    case round =>
      obtain ⟨k, hk, rfl, HD, hbr⟩ := hrel
      have hsr := hbr.size
      have hbr0 := hbr.mono hB
      by_cases hlt : k < e.ar.length
      · obtain ⟨ad, ci, rfl, hb, hci, hcell⟩ := ExAt.arg (HR.out.1.below hbr0) (fun i h => (HR.out.2 i h).keep hbr0) hlt
        obtain ⟨a, hea⟩ : ∃ a, e.ar[k] = a := ⟨_, rfl⟩
        have ham : a ∈ e.ar := by rw [← hea]; exact List.getElem_mem hlt
        obtain ⟨g, hg⟩ : ∃ g, a.fault = g := ⟨_, rfl⟩
        have HGF := Lib.hid hg
        have HDD := Lib.hid (show faultL (e.ar.drop k) = if g ≠ 0 then g else faultL (e.ar.drop (k + 1)) by
          rw [List.drop_eq_getElem_cons hlt, hea, faultL, hg])
        have HLT := Lib.hid hlt
        have HI1 := Lib.hid (fun w' h1 h2 => HI.out a ham B ci w' h1 h2)
        rw [hea] at hci
        have HCI := Lib.hid hci
        obtain ⟨hn1, hs1, hl1, ha1, hx1, hr1, hi1⟩ := hci
        rename_i A1 c1 A1' c1' cs1
        have fc0 : wr.cell? (ad.add (k * 8)) = some (.int .i64 a.k) := hcell 0 _ rfl
        have fc1 : wr.cell? ⟨(ad.add (k * 8)).block, (ad.add (k * 8)).off + 1, none⟩ = some (.int .i64 a.op) := hcell 1 _ rfl
        have fc2 : wr.cell? ⟨(ad.add (k * 8)).block, (ad.add (k * 8)).off + 2, none⟩ = some (.string a.nm) := hcell 2 _ rfl
        have fc3 : wr.cell? ⟨(ad.add (k * 8)).block, (ad.add (k * 8)).off + 3, none⟩ = some (.int .i64 a.v.k) := hcell 3 _ rfl
        have fc4 : wr.cell? ⟨(ad.add (k * 8)).block, (ad.add (k * 8)).off + 4, none⟩ = some (.int .i64 a.v.n) := hcell 4 _ rfl
        have fc5 : wr.cell? ⟨(ad.add (k * 8)).block, (ad.add (k * 8)).off + 5, none⟩ = some (.string a.v.s) := hcell 5 _ rfl
        have fc6 : wr.cell? ⟨(ad.add (k * 8)).block, (ad.add (k * 8)).off + 6, none⟩ = some (.slice A1 a.v.l.length c1) := hcell 6 _ rfl
        have fc7 : wr.cell? ⟨(ad.add (k * 8)).block, (ad.add (k * 8)).off + 7, none⟩ = some (.slice A1' a.ar.length c1') := hcell 7 _ rfl
        clear hx1 hr1 hi1 hcell hea ham hg
        go_wp2_with fail
        obtain ⟨W, hW⟩ : ∃ W, W = wr.alloc (.cells #[.int .i64 a.k, .int .i64 a.op, .string a.nm, .int .i64 a.v.k, .int .i64 a.v.n, .string a.v.s, .slice A1 a.v.l.length c1, .slice A1' a.ar.length c1'] 27 (0, 0)) := ⟨_, rfl⟩
        have hbW : Below wr.heap.size wr W := hW ▸ (Below.refl _ wr).alloc (Nat.le_refl _) _
        rw [← hW]
        have hb2 := hbr.trans (hbW.mono hsr)
        have hbB := hbW.mono (Nat.le_trans hB hsr)
        clear hW fc0 fc1 fc2 fc3 fc4 fc5 fc6 fc7
        refine (HI1.out W (HCI.out.keep hbB) (Nat.le_trans hB hb2.size)).mono ?_
        rw [HGF.out]
        rintro en w3 ⟨rfl, hb3⟩
        have hbw := hb2.trans (hb3.mono hb2.size)
        clear hb3 hbW hbB hb2 HI1
        by_cases hg0 : g = 0
        rotate_left
        · have bg : (g != 0) = true := by simpa using hg0
          have HFF := Lib.hid (show e.fault = g by rw [HG.out, HD.out, HDD.out, if_pos hg0])
          clear hg0
          go_wp2
          go_ret
          exact ⟨ret_int (by rw [HFF.out]), hbw⟩
        subst hg0
        have HD2 := Lib.hid (show faultL e.ar = faultL (e.ar.drop (k + 1)) by rw [HD.out, HDD.out, if_neg (by omega)])
        go_wp2
        go_roundw
        case rel => exact ⟨k + 1, HLT.out, by go_num, HD2, hbw⟩
        case measure =>
          have := HLT.out
          simp [intOf]
          omega
      · have HFF := Lib.hid (show e.fault = 0 by rw [HG.out, HD.out, List.drop_eq_nil_of_le (by omega)]; rfl)
        go_wp2
        go_ret
        exact ⟨ret_int (by rw [HFF.out]), hbr⟩
set_option maxHeartbeats 2000000 in
set_option maxRecDepth 100000 in
theorem formed_any (e : Ex) : ∀ (B : Nat) (cs : List Value) (w : World), ExAt w B e cs → B ≤ w.heap.size → e.parts ≤ 1000000 → Sp w →
    Calls Tryz.prog 30 #[.agg cs.toArray] w fun en w' => en = .returned (.int .i64 e.fault) ∧ Below w.heap.size w w' := by
  induction e using Ex.ind with
  | h e ih =>
    rintro B cs w hx hB hpz hsp
    have HXA := Lib.hid hx
    obtain ⟨hn, hs, hl, ha, hx, hr, hi⟩ := hx
    rename_i A c A' c' cs
    have HR := Lib.hid (And.intro hr hi)
    have HI := Lib.hid ih
    have HA := Lib.hid ha
    have HP := Lib.hid (fun w' hb hB' h1 h2 => partForm_any e.k e.op e.nm e.v e.ar.length (headK e.ar) A c A' c' B w' hn hs hl ha (hx.below hb) hB' (headK_cell (hr.below hb) (fun i h => (hi i h).keep hb)) h1 h2)
    have HSP := Lib.hid hsp
    have SZ := Lib.hid (fun a (h : a ∈ e.ar) => (show a.parts ≤ 1000000 by have := partsL_mem h; have := parts_eq e; omega))
    unfold maxLen at ha
    clear hr hi ih hx hsp
    obtain ⟨f, hf⟩ : ∃ f, partF e = f := ⟨_, rfl⟩
    have HF := Lib.hid hf
    have HFE := Lib.hid (fault_eq e)
    clear hf
    show Calls Tryz.prog 30 #[.agg #[.int .i64 e.k, .int .i64 e.op, .string e.nm, .int .i64 e.v.k, .int .i64 e.v.n, .string e.v.s, .slice A e.v.l.length c, .slice A' e.ar.length c']] w _
    go_enter Tryz.func30, Tryz.ntmps30
    go_wp2_with fail
    obtain ⟨W, hW⟩ : ∃ W, W = (w.alloc (.cells #[.int .i64 e.k, .int .i64 e.op, .string e.nm, .int .i64 e.v.k, .int .i64 e.v.n, .string e.v.s, .slice A e.v.l.length c, .slice A' e.ar.length c'] 27 (0, 0))) := ⟨_, rfl⟩
    have hbw : Below w.heap.size w W := by rw [hW]; exact ((Below.refl _ w).alloc (Nat.le_refl _) _)
    have B0 : Blk W (w.heap.size) 27 #[.int .i64 e.k, .int .i64 e.op, .string e.nm, .int .i64 e.v.k, .int .i64 e.v.n, .string e.v.s, .slice A e.v.l.length c, .slice A' e.ar.length c'] := by
      rw [hW]
      have := Blk.new w 27 #[.int .i64 e.k, .int .i64 e.op, .string e.nm, .int .i64 e.v.k, .int .i64 e.v.n, .string e.v.s, .slice A e.v.l.length c, .slice A' e.ar.length c']
      exact this
    have hsz : W.heap.size = w.heap.size + 1 := by rw [hW]; simp
    rw [← hW]
    clear hW hsz
    refine (HP.out W (hbw.mono hB) (Nat.le_trans hB hbw.size) (tabIs_below HSP.out hbw) (by have := len_parts e.ar; have := parts_eq e; omega)).mono ?_
    rw [show partB e.k e.op e.nm e.v e.ar.length (headK e.ar) = f from HF.out]
    rintro en w1 ⟨rfl, hb1⟩
    have B0 := B0.below hb1 B0.lt
    have hbw := hbw.trans (hb1.mono hbw.size)
    clear hb1 HP
    have rc0 : w1.cell? ⟨w.heap.size, 0, none⟩ = some (.int .i64 e.k) := B0.cell 0
    have rc1 : w1.cell? ⟨w.heap.size, 1, none⟩ = some (.int .i64 e.op) := B0.cell 1
    have rc2 : w1.cell? ⟨w.heap.size, 2, none⟩ = some (.string e.nm) := B0.cell 2
    have rc3 : w1.cell? ⟨w.heap.size, 3, none⟩ = some (.int .i64 e.v.k) := B0.cell 3
    have rc4 : w1.cell? ⟨w.heap.size, 4, none⟩ = some (.int .i64 e.v.n) := B0.cell 4
    have rc5 : w1.cell? ⟨w.heap.size, 5, none⟩ = some (.string e.v.s) := B0.cell 5
    have rc6 : w1.cell? ⟨w.heap.size, 6, none⟩ = some (.slice A e.v.l.length c) := B0.cell 6
    have rc7 : w1.cell? ⟨w.heap.size, 7, none⟩ = some (.slice A' e.ar.length c') := B0.cell 7
    by_cases h0 : f = 0
    rotate_left
    · have bf : (f != 0) = true := by simpa using h0
      have HG := Lib.hid (HFE.out.trans (by rw [HF.out, if_pos h0]))
      clear h0
      go_wp2
      go_ret
      exact ⟨ret_int (by rw [HG.out]), hbw⟩
    subst h0
    have HG := Lib.hid (show e.fault = faultL e.ar from HFE.out.trans (by rw [HF.out, if_neg (by omega)]))
    clear HFE
    go_wp2
    go_loopw [15] (fun i wr => ∃ k : Nat, k ≤ e.ar.length ∧ i = .int .i64 k ∧ Hid (faultL e.ar = faultL (e.ar.drop k)) ∧ Below w.heap.size w wr) (fun i _ => e.ar.length - (intOf i).toNat)
    case atStart => exact ⟨0, Nat.zero_le _, rfl, Lib.hid rfl, hbw⟩
    case round =>
      obtain ⟨k, hk, rfl, HD, hbr⟩ := hrel
      have hsr := hbr.size
      have hbr0 := hbr.mono hB
      by_cases hlt : k < e.ar.length
      · obtain ⟨ad, ci, rfl, hb, hci, hcell⟩ := ExAt.arg (HR.out.1.below hbr0) (fun i h => (HR.out.2 i h).keep hbr0) hlt
        obtain ⟨a, hea⟩ : ∃ a, e.ar[k] = a := ⟨_, rfl⟩
        have ham : a ∈ e.ar := by rw [← hea]; exact List.getElem_mem hlt
        obtain ⟨g, hg⟩ : ∃ g, a.fault = g := ⟨_, rfl⟩
        have HGF := Lib.hid hg
        have HDD := Lib.hid (show faultL (e.ar.drop k) = if g ≠ 0 then g else faultL (e.ar.drop (k + 1)) by
          rw [List.drop_eq_getElem_cons hlt, hea, faultL, hg])
        have HLT := Lib.hid hlt
        have HI1 := Lib.hid (fun w' h1 h2 => HI.out a ham B ci w' h1 h2 (SZ.out a ham))
        rw [hea] at hci
        have HCI := Lib.hid hci
        obtain ⟨hn1, hs1, hl1, ha1, hx1, hr1, hi1⟩ := hci
        rename_i A1 c1 A1' c1' cs1
        have fc0 : wr.cell? (ad.add (k * 8)) = some (.int .i64 a.k) := hcell 0 _ rfl
        have fc1 : wr.cell? ⟨(ad.add (k * 8)).block, (ad.add (k * 8)).off + 1, none⟩ = some (.int .i64 a.op) := hcell 1 _ rfl
        have fc2 : wr.cell? ⟨(ad.add (k * 8)).block, (ad.add (k * 8)).off + 2, none⟩ = some (.string a.nm) := hcell 2 _ rfl
        have fc3 : wr.cell? ⟨(ad.add (k * 8)).block, (ad.add (k * 8)).off + 3, none⟩ = some (.int .i64 a.v.k) := hcell 3 _ rfl
        have fc4 : wr.cell? ⟨(ad.add (k * 8)).block, (ad.add (k * 8)).off + 4, none⟩ = some (.int .i64 a.v.n) := hcell 4 _ rfl
        have fc5 : wr.cell? ⟨(ad.add (k * 8)).block, (ad.add (k * 8)).off + 5, none⟩ = some (.string a.v.s) := hcell 5 _ rfl
        have fc6 : wr.cell? ⟨(ad.add (k * 8)).block, (ad.add (k * 8)).off + 6, none⟩ = some (.slice A1 a.v.l.length c1) := hcell 6 _ rfl
        have fc7 : wr.cell? ⟨(ad.add (k * 8)).block, (ad.add (k * 8)).off + 7, none⟩ = some (.slice A1' a.ar.length c1') := hcell 7 _ rfl
        clear hx1 hr1 hi1 hcell hea ham hg
        go_wp2_with fail
        obtain ⟨W, hW⟩ : ∃ W, W = wr.alloc (.cells #[.int .i64 a.k, .int .i64 a.op, .string a.nm, .int .i64 a.v.k, .int .i64 a.v.n, .string a.v.s, .slice A1 a.v.l.length c1, .slice A1' a.ar.length c1'] 27 (0, 0)) := ⟨_, rfl⟩
        have hbW : Below wr.heap.size wr W := hW ▸ (Below.refl _ wr).alloc (Nat.le_refl _) _
        rw [← hW]
        have hb2 := hbr.trans (hbW.mono hsr)
        have hbB := hbW.mono (Nat.le_trans hB hsr)
        clear hW fc0 fc1 fc2 fc3 fc4 fc5 fc6 fc7
        refine (HI1.out W (HCI.out.keep hbB) (Nat.le_trans hB hb2.size) (tabIs_below HSP.out hb2)).mono ?_
        rw [HGF.out]
        rintro en w3 ⟨rfl, hb3⟩
        have hbw := hb2.trans (hb3.mono hb2.size)
        clear hb3 hbW hbB hb2 HI1
        by_cases hg0 : g = 0
        rotate_left
        · have bg : (g != 0) = true := by simpa using hg0
          have HFF := Lib.hid (show e.fault = g by rw [HG.out, HD.out, HDD.out, if_pos hg0])
          clear hg0
          go_wp2
          go_ret
          exact ⟨ret_int (by rw [HFF.out]), hbw⟩
        subst hg0
        have HD2 := Lib.hid (show faultL e.ar = faultL (e.ar.drop (k + 1)) by rw [HD.out, HDD.out, if_neg (by omega)])
        go_wp2
        go_roundw
        case rel => exact ⟨k + 1, HLT.out, by go_num, HD2, hbw⟩
        case measure =>
          have := HLT.out
          simp [intOf]
          omega
      · have HFF := Lib.hid (show e.fault = 0 by rw [HG.out, HD.out, List.drop_eq_nil_of_le (by omega)]; rfl)
        go_wp2
        go_ret
        exact ⟨ret_int (by rw [HFF.out]), hbr⟩
end Go.Proofs.YtcmccjcelchlhaaGreatDoor
