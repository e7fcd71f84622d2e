/- Lemmas for the claim: walks and plain laws. -/
import Derived.Test.YtobanldeicclmaaGreatDoorZ8
set_option maxHeartbeats 4000000
set_option maxRecDepth 100000
namespace Go.Proofs.YtobanldeicclmaaGreatDoor
open Go.RowKit
theorem sG (x : Val) (A : Option Addr) (c : Nat) (w : World) :
  Calls Tryz.prog 96 #[.agg #[.int .i64 x.k, .int .i64 x.n, .string x.s, .slice A x.l.length c]] w fun e w' => e = .returned (.bool (kS x)) ∧ Below w.heap.size w w' := by
 go_enter Tryz.func96, Tryz.ntmps96
 go_wp2
 all_goals (go_ret; exact ⟨aj (by simp_all [kS]; try (rw [Bool.eq_iff_iff]; simp [List.length_eq_zero_iff])), (Below.refl _ _).alloc (Nat.le_refl _) _⟩)
theorem xQ (x : Val) (A : Option Addr) (c : Nat) (w : World) :
  Calls Tryz.prog 92 #[.agg #[.int .i64 x.k, .int .i64 x.n, .string x.s, .slice A x.l.length c]] w fun e w' => e = .returned (.bool (kS x)) ∧ Below w.heap.size w w' := by
 go_enter Tryz.func92, Tryz.ntmps92
 go_wp2
 all_goals (go_ret; exact ⟨aj (by simp_all [kS]; try (rw [Bool.eq_iff_iff]; simp [List.length_eq_zero_iff])), (Below.refl _ _).alloc (Nat.le_refl _) _⟩)
theorem KX {op : Int} (h : op ≠ 2 ∧ op ≠ 3 ∧ op ≠ 24 ∧ op ≠ 25 ∧ op ≠ 26 ∧ op ≠ 1 ∧ op ≠ 12 ∧ op ≠ 13 ∧ op ≠ 14 ∧ op ≠ 20 ∧ op ≠ 21 ∧ op ≠ 22 ∧ op ≠ 23 ∧ op ≠ 28 ∧ op ≠ 29 ∧ op ≠ 30 ∧ op ≠ 34 ∧ op ≠ 35 ∧ op ≠ 36) : iU op = if bF op 1 39 = true then (0, 0) else (2, 2) := by
 obtain ⟨h2, h3, h24, h25, h26, h1, h12, h13, h14, h20, h21, h22, h23, h28, h29, h30, h34, h35, h36⟩ := h
 unfold iU
 rw [if_neg (by omega), if_neg (by omega), if_neg (by omega)]
 by_cases h0 : 1 ≤ op ∧ op ≤ 39
 ·
  rw [if_pos h0, nC h0.1 h0.2]; rfl
 ·
  rw [if_neg h0, oQ (by omega)]; rfl
def Ym (op : Int) : Value := .tuple #[.int .i64 ((iU op).1 : Nat), .int .i64 ((iU op).2 : Nat)]
theorem Fg (op : Int) (w : World) :
  Calls Tryz.prog 97 #[.int .i64 op] w fun e w' => e = .returned (Ym op) ∧ w = w' := by
 by_cases h : op = 2 ∨ op = 3 ∨ op = 24 ∨ op = 25 ∨ op = 26 ∨ op = 1 ∨ op = 12 ∨ op = 13 ∨ op = 14 ∨ op = 20 ∨ op = 21 ∨ op = 22 ∨ op = 23 ∨ op = 28 ∨ op = 29 ∨ op = 30 ∨ op = 34 ∨ op = 35 ∨ op = 36
 ·
  rcases h with rfl | rfl | rfl | rfl | rfl | rfl | rfl | rfl | rfl | rfl | rfl | rfl | rfl | rfl | rfl | rfl | rfl | rfl | rfl
  all_goals
   go_enter Tryz.func97, Tryz.ntmps97
   go_wp2
   go_ret2
   exact ⟨rfl, rfl⟩
 ·
  have hh : op ≠ 2 ∧ op ≠ 3 ∧ op ≠ 24 ∧ op ≠ 25 ∧ op ≠ 26 ∧ op ≠ 1 ∧ op ≠ 12 ∧ op ≠ 13 ∧ op ≠ 14 ∧ op ≠ 20 ∧ op ≠ 21 ∧ op ≠ 22 ∧ op ≠ 23 ∧ op ≠ 28 ∧ op ≠ 29 ∧ op ≠ 30 ∧ op ≠ 34 ∧ op ≠ 35 ∧ op ≠ 36 := by omega
  have HA := qh (KX hh)
  have b2 : (op == 2) = false := by rw [beq_eq_false_iff_ne]; omega
  have b3 : (op == 3) = false := by rw [beq_eq_false_iff_ne]; omega
  have b24 : (op == 24) = false := by rw [beq_eq_false_iff_ne]; omega
  have b25 : (op == 25) = false := by rw [beq_eq_false_iff_ne]; omega
  have b26 : (op == 26) = false := by rw [beq_eq_false_iff_ne]; omega
  have b1 : (op == 1) = false := by rw [beq_eq_false_iff_ne]; omega
  have b12 : (op == 12) = false := by rw [beq_eq_false_iff_ne]; omega
  have b13 : (op == 13) = false := by rw [beq_eq_false_iff_ne]; omega
  have b14 : (op == 14) = false := by rw [beq_eq_false_iff_ne]; omega
  have b20 : (op == 20) = false := by rw [beq_eq_false_iff_ne]; omega
  have b21 : (op == 21) = false := by rw [beq_eq_false_iff_ne]; omega
  have b22 : (op == 22) = false := by rw [beq_eq_false_iff_ne]; omega
  have b23 : (op == 23) = false := by rw [beq_eq_false_iff_ne]; omega
  have b28 : (op == 28) = false := by rw [beq_eq_false_iff_ne]; omega
  have b29 : (op == 29) = false := by rw [beq_eq_false_iff_ne]; omega
  have b30 : (op == 30) = false := by rw [beq_eq_false_iff_ne]; omega
  have b34 : (op == 34) = false := by rw [beq_eq_false_iff_ne]; omega
  have b35 : (op == 35) = false := by rw [beq_eq_false_iff_ne]; omega
  have b36 : (op == 36) = false := by rw [beq_eq_false_iff_ne]; omega
  obtain ⟨o, ho⟩ := ae (bF op 1 39)
  have HO := qh ho
  clear h hh ho
  go_enter Tryz.func97, Tryz.ntmps97
  go_wp2_with fail
  refine (aW op 1 39 w).mono ?_
  rw [HO.out]
  rintro e w1 ⟨rfl, rfl⟩
  cases o
  ·
   go_wp2
   go_ret2
   exact ⟨eP (by unfold Ym; rw [HA.out, HO.out]; rfl), rfl⟩
  ·
   go_wp2
   go_ret2
   exact ⟨eP (by unfold Ym; rw [HA.out, HO.out]; rfl), rfl⟩
theorem VS (op : Int) (nm : ByteArray) (v : Val) (n : Nat) (A : Option Addr) (c : Nat) (A' : Option Addr) (c' : Nat) (w : World) (hn : n ≤ maxLen) :
  Calls Tryz.prog 64 #[.agg #[.int .i64 1, .int .i64 op, .string nm, .int .i64 v.k, .int .i64 v.n, .string v.s, .slice A v.l.length c, .slice A' n c']] w fun e w' => e = .returned (.bool (aG 1 op nm v n)) ∧ Below w.heap.size w w' := by
 unfold maxLen at hn
 go_enter Tryz.func64, Tryz.ntmps64
 go_wp2
 all_goals (go_ret; exact ⟨aj (by simp_all [aG, Nat.pos_iff_ne_zero]), (Below.refl _ _).alloc (Nat.le_refl _) _⟩)
theorem VT (op : Int) (nm : ByteArray) (v : Val) (n : Nat) (A : Option Addr) (c : Nat) (A' : Option Addr) (c' : Nat) (w : World) (hn : n ≤ maxLen) :
  Calls Tryz.prog 64 #[.agg #[.int .i64 2, .int .i64 op, .string nm, .int .i64 v.k, .int .i64 v.n, .string v.s, .slice A v.l.length c, .slice A' n c']] w fun e w' => e = .returned (.bool (aG 2 op nm v n)) ∧ Below w.heap.size w w' := by
 unfold maxLen at hn
 obtain ⟨z, hz⟩ := ae (kS v)
 have HZ := qh hz
 clear hz
 go_enter Tryz.func64, Tryz.ntmps64
 go_wp2_with fail
 obtain ⟨W, hW⟩ := au ((w.alloc (.cells #[.int .i64 2, .int .i64 op, .string nm, .int .i64 v.k, .int .i64 v.n, .string v.s, .slice A v.l.length c, .slice A' n c'] 27 (0, 0))))
 have hbw : Below w.heap.size w W := by rw [hW]; exact ((Below.refl _ w).alloc (Nat.le_refl _) _)
 have B0 : af W (w.heap.size) 27 #[.int .i64 2, .int .i64 op, .string nm, .int .i64 v.k, .int .i64 v.n, .string v.s, .slice A v.l.length c, .slice A' n c'] := by
  rw [hW]
  have := af.new w 27 #[.int .i64 2, .int .i64 op, .string nm, .int .i64 v.k, .int .i64 v.n, .string v.s, .slice A v.l.length c, .slice A' n c']
  exact this
 have hsz : W.heap.size = w.heap.size + 1 := by rw [hW]; simp
 rw [← hW]
 clear hW hsz
 refine (sG v A c W).mono ?_
 rw [HZ.out]
 rintro e w1 ⟨rfl, hb1⟩
 have B0 := B0.below hb1 B0.lt
 have hbw := hbw.trans (hb1.mono hbw.size)
 clear hb1
 obtain ⟨aQ, aS, aT, aU, aY, aZ, bu, bz⟩ := af.c8 B0
 cases z
 ·
  go_wp2
  go_ret
  exact ⟨aj (by unfold aG; rw [HZ.out]; simp), hbw⟩
 ·
  go_wp2
  all_goals (go_ret; exact ⟨aj (by have hz := HZ.out; simp_all [aG, Nat.pos_iff_ne_zero]), hbw⟩)
theorem VU (op : Int) (nm : ByteArray) (v : Val) (n : Nat) (A : Option Addr) (c : Nat) (A' : Option Addr) (c' : Nat) (w : World) (hn : n ≤ maxLen) :
  Calls Tryz.prog 64 #[.agg #[.int .i64 3, .int .i64 op, .string nm, .int .i64 v.k, .int .i64 v.n, .string v.s, .slice A v.l.length c, .slice A' n c']] w fun e w' => e = .returned (.bool (aG 3 op nm v n)) ∧ Below w.heap.size w w' := by
 unfold maxLen at hn
 obtain ⟨z, hz⟩ := ae (kS v)
 have HZ := qh hz
 clear hz
 go_enter Tryz.func64, Tryz.ntmps64
 go_wp2_with fail
 obtain ⟨W, hW⟩ := au ((w.alloc (.cells #[.int .i64 3, .int .i64 op, .string nm, .int .i64 v.k, .int .i64 v.n, .string v.s, .slice A v.l.length c, .slice A' n c'] 27 (0, 0))))
 have hbw : Below w.heap.size w W := by rw [hW]; exact ((Below.refl _ w).alloc (Nat.le_refl _) _)
 have B0 : af W (w.heap.size) 27 #[.int .i64 3, .int .i64 op, .string nm, .int .i64 v.k, .int .i64 v.n, .string v.s, .slice A v.l.length c, .slice A' n c'] := by
  rw [hW]
  have := af.new w 27 #[.int .i64 3, .int .i64 op, .string nm, .int .i64 v.k, .int .i64 v.n, .string v.s, .slice A v.l.length c, .slice A' n c']
  exact this
 have hsz : W.heap.size = w.heap.size + 1 := by rw [hW]; simp
 rw [← hW]
 clear hW hsz
 refine (sG v A c W).mono ?_
 rw [HZ.out]
 rintro e w1 ⟨rfl, hb1⟩
 have B0 := B0.below hb1 B0.lt
 have hbw := hbw.trans (hb1.mono hbw.size)
 clear hb1
 obtain ⟨aQ, aS, aT, aU, aY, aZ, bu, bz⟩ := af.c8 B0
 cases z
 ·
  go_wp2
  go_ret
  exact ⟨aj (by unfold aG; rw [HZ.out]; simp), hbw⟩
 ·
  go_wp2
  all_goals (go_ret; exact ⟨aj (by have hz := HZ.out; simp_all [aG, Nat.pos_iff_ne_zero]), hbw⟩)
theorem VV (op : Int) (nm : ByteArray) (v : Val) (n : Nat) (A : Option Addr) (c : Nat) (A' : Option Addr) (c' : Nat) (w : World) (hn : n ≤ maxLen) :
  Calls Tryz.prog 64 #[.agg #[.int .i64 4, .int .i64 op, .string nm, .int .i64 v.k, .int .i64 v.n, .string v.s, .slice A v.l.length c, .slice A' n c']] w fun e w' => e = .returned (.bool (aG 4 op nm v n)) ∧ Below w.heap.size w w' := by
 unfold maxLen at hn
 obtain ⟨z, hz⟩ := ae (kS v)
 have HZ := qh hz
 clear hz
 go_enter Tryz.func64, Tryz.ntmps64
 go_wp2_with fail
 obtain ⟨W, hW⟩ := au ((w.alloc (.cells #[.int .i64 4, .int .i64 op, .string nm, .int .i64 v.k, .int .i64 v.n, .string v.s, .slice A v.l.length c, .slice A' n c'] 27 (0, 0))))
 have hbw : Below w.heap.size w W := by rw [hW]; exact ((Below.refl _ w).alloc (Nat.le_refl _) _)
 have B0 : af W (w.heap.size) 27 #[.int .i64 4, .int .i64 op, .string nm, .int .i64 v.k, .int .i64 v.n, .string v.s, .slice A v.l.length c, .slice A' n c'] := by
  rw [hW]
  have := af.new w 27 #[.int .i64 4, .int .i64 op, .string nm, .int .i64 v.k, .int .i64 v.n, .string v.s, .slice A v.l.length c, .slice A' n c']
  exact this
 have hsz : W.heap.size = w.heap.size + 1 := by rw [hW]; simp
 rw [← hW]
 clear hW hsz
 refine (sG v A c W).mono ?_
 rw [HZ.out]
 rintro e w1 ⟨rfl, hb1⟩
 have B0 := B0.below hb1 B0.lt
 have hbw := hbw.trans (hb1.mono hbw.size)
 clear hb1
 obtain ⟨aQ, aS, aT, aU, aY, aZ, bu, bz⟩ := af.c8 B0
 cases z
 ·
  go_wp2
  go_ret
  exact ⟨aj (by unfold aG; rw [HZ.out]; simp), hbw⟩
 ·
  by_cases hnm : nm.toList = []
  rotate_left
  ·
   have NM := qh hnm
   have se : nm.toList.isEmpty = false := by cases h : nm.toList with
    | nil => exact absurd h hnm
    | cons a r => rfl
   clear hnm
   go_wp2
   go_ret
   exact ⟨aj (by unfold aG; rw [if_pos (.inr (.inr ⟨by omega, NM.out⟩))]), hbw⟩
  have se : nm.toList.isEmpty = true := by rw [hnm]; rfl
  have HE := qh (show aG 4 op nm v n = bF n ((iU op).1 : Nat) ((iU op).2 : Nat) by
   unfold aG
   rw [if_neg (by rw [HZ.out]; simp [hnm]), if_neg (by omega)]
   simp [bF])
  obtain ⟨lo, hlo⟩ := ae ((iU op).1)
  obtain ⟨hi, hhi⟩ := ae ((iU op).2)
  have HL := qh (And.intro hlo hhi)
  have XB := qh (show Ym op = .tuple #[.int .i64 (lo : Nat), .int .i64 (hi : Nat)] by unfold Ym; rw [hlo, hhi])
  clear hnm hlo hhi
  go_wp2_with fail
  refine (Fg op w1).mono ?_
  rw [XB.out]
  rintro e w2 ⟨rfl, rfl⟩
  go_wp2_with fail
  refine (aW n lo hi w1).mono ?_
  rintro e w2 ⟨rfl, rfl⟩
  go_wp2
  go_ret
  exact ⟨aj (by rw [HE.out, HL.out.1, HL.out.2]), hbw⟩
theorem VW (op : Int) (nm : ByteArray) (v : Val) (n : Nat) (A : Option Addr) (c : Nat) (A' : Option Addr) (c' : Nat) (w : World) (hn : n ≤ maxLen) :
  Calls Tryz.prog 64 #[.agg #[.int .i64 5, .int .i64 op, .string nm, .int .i64 v.k, .int .i64 v.n, .string v.s, .slice A v.l.length c, .slice A' n c']] w fun e w' => e = .returned (.bool (aG 5 op nm v n)) ∧ Below w.heap.size w w' := by
 unfold maxLen at hn
 obtain ⟨z, hz⟩ := ae (kS v)
 have HZ := qh hz
 clear hz
 go_enter Tryz.func64, Tryz.ntmps64
 go_wp2_with fail
 obtain ⟨W, hW⟩ := au ((w.alloc (.cells #[.int .i64 5, .int .i64 op, .string nm, .int .i64 v.k, .int .i64 v.n, .string v.s, .slice A v.l.length c, .slice A' n c'] 27 (0, 0))))
 have hbw : Below w.heap.size w W := by rw [hW]; exact ((Below.refl _ w).alloc (Nat.le_refl _) _)
 have B0 : af W (w.heap.size) 27 #[.int .i64 5, .int .i64 op, .string nm, .int .i64 v.k, .int .i64 v.n, .string v.s, .slice A v.l.length c, .slice A' n c'] := by
  rw [hW]
  have := af.new w 27 #[.int .i64 5, .int .i64 op, .string nm, .int .i64 v.k, .int .i64 v.n, .string v.s, .slice A v.l.length c, .slice A' n c']
  exact this
 have hsz : W.heap.size = w.heap.size + 1 := by rw [hW]; simp
 rw [← hW]
 clear hW hsz
 refine (sG v A c W).mono ?_
 rw [HZ.out]
 rintro e w1 ⟨rfl, hb1⟩
 have B0 := B0.below hb1 B0.lt
 have hbw := hbw.trans (hb1.mono hbw.size)
 clear hb1
 obtain ⟨aQ, aS, aT, aU, aY, aZ, bu, bz⟩ := af.c8 B0
 cases z
 ·
  go_wp2
  go_ret
  exact ⟨aj (by unfold aG; rw [HZ.out]; simp), hbw⟩
 ·
  go_wp2
  all_goals (go_ret; exact ⟨aj (by have hz := HZ.out; unfold aG; rw [hz]; simp; try (rw [Bool.eq_iff_iff]; simp; omega)), hbw⟩)
theorem qZ (k op : Int) (nm : ByteArray) (v : Val) (n : Nat) (A : Option Addr) (c : Nat) (A' : Option Addr) (c' : Nat) (w : World) (hn : n ≤ maxLen) (h1 : 1 ≤ k) (h5 : k ≤ 5) :
  Calls Tryz.prog 64 #[.agg #[.int .i64 k, .int .i64 op, .string nm, .int .i64 v.k, .int .i64 v.n, .string v.s, .slice A v.l.length c, .slice A' n c']] w fun e w' => e = .returned (.bool (aG k op nm v n)) ∧ Below w.heap.size w w' := by
 obtain rfl | rfl | rfl | rfl | rfl : k = 1 ∨ k = 2 ∨ k = 3 ∨ k = 4 ∨ k = 5 := by omega
 ·
  exact VS op nm v n A c A' c' w hn
 ·
  exact VT op nm v n A c A' c' w hn
 ·
  exact VU op nm v n A c A' c' w hn
 ·
  exact VV op nm v n A c A' c' w hn
 ·
  exact VW op nm v n A c A' c' w hn
def oG (op : Int) : List Int :=
 if op = 1 ∨ op = 2 ∨ op = 3 then [7] else
 if op = 4 ∨ op = 5 ∨ op = 27 then [-1, -1] else
 if op = 6 ∨ op = 7 ∨ op = 8 ∨ op = 9 then [-2, -2] else
 if op = 10 then [4, 5] else
 if op = 11 then [5, 4] else
 if op = 12 ∨ op = 13 ∨ op = 14 then [-1] else
 if op = 15 ∨ op = 16 ∨ op = 17 ∨ op = 18 ∨ op = 19 then [2, 2] else
 if op = 20 ∨ op = 21 ∨ op = 22 ∨ op = 23 then [2] else
 if op = 24 ∨ op = 25 then [-2] else
 if op = 26 then [7, -1, -1] else
 if op = 28 then [-3] else
 if op = 29 then [4] else
 if op = 30 then [3] else
 if op = 31 ∨ op = 32 ∨ op = 33 then [3, 3] else
 if op = 34 ∨ op = 35 ∨ op = 36 then [6] else
 if op = 37 ∨ op = 38 then [6, 6] else [6, 2]
def XC (op : Int) : Int :=
 if op = 1 ∨ op = 2 ∨ op = 3 ∨ op = 4 ∨ op = 5 ∨ op = 6 ∨ op = 7 ∨ op = 8 ∨ op = 9 ∨ op = 10 ∨ op = 11 ∨ op = 12 ∨ op = 13 ∨ op = 32 ∨ op = 33 then 7 else if op = 14 ∨ op = 15 ∨ op = 16 ∨ op = 17 ∨ op = 18 ∨ op = 19 ∨ op = 20 ∨ op = 21 ∨ op = 22 ∨ op = 23 ∨ op = 28 ∨ op = 29 ∨ op = 34 ∨ op = 35 ∨ op = 36 ∨ op = 37 ∨ op = 38 then 2 else if op = 24 ∨ op = 25 then -2 else if op = 26 ∨ op = 27 then -1 else if op = 30 ∨ op = 31 then 3 else 6
def xe (op : Int) : Bool := decide (op = 2 ∨ op = 3 ∨ op = 24 ∨ op = 25)
theorem dP (w : World) (o : Obj) (t : TypeId) (cs : Array Value) : af ((w.alloc o).alloc (.cells cs t)) (w.heap.size + 1) t cs := by
 have := af.new (w.alloc o) t cs
 rwa [World.size_alloc] at this
structure ShR (e : Ending) (w w' : World) (op : Int) : Prop where
 he : e = .returned (.agg #[.slice (some ⟨w.heap.size + 1, 0, none⟩) (oG op).length (oG op).length, .int .i64 (XC op), .bool (xe op)])
 hB : af w' (w.heap.size + 1) 3 (dS .i64 (oG op)).toArray
 hb : Below w.heap.size w w'
theorem SK (op : Int) (w : World) (h : op = 1) : Calls Tryz.prog 116 #[.int .i64 op] w fun e w' => ShR e w w' op := by
 rcases h with rfl
 all_goals
  go_enter Tryz.func116, Tryz.ntmps116
  go_wp2
  exact bodyPost_ret (v := .agg #[.slice (some ⟨w.heap.size + 1, 0, none⟩) 1 1, .int .i64 7, .bool false]) (by simp [results, Tryz.results116, go_sem]) rfl ⟨rfl, dP w _ 3 #[.int .i64 7], ((Below.refl _ _).alloc (Nat.le_refl _) _).alloc (by simp) _⟩
theorem SL (op : Int) (w : World) (h : op = 2 ∨ op = 3) : Calls Tryz.prog 116 #[.int .i64 op] w fun e w' => ShR e w w' op := by
 rcases h with rfl | rfl
 all_goals
  go_enter Tryz.func116, Tryz.ntmps116
  go_wp2
  exact bodyPost_ret (v := .agg #[.slice (some ⟨w.heap.size + 1, 0, none⟩) 1 1, .int .i64 7, .bool true]) (by simp [results, Tryz.results116, go_sem]) rfl ⟨rfl, dP w _ 3 #[.int .i64 7], ((Below.refl _ _).alloc (Nat.le_refl _) _).alloc (by simp) _⟩
theorem SN (op : Int) (w : World) (h : op = 4 ∨ op = 5) : Calls Tryz.prog 116 #[.int .i64 op] w fun e w' => ShR e w w' op := by
 rcases h with rfl | rfl
 all_goals
  go_enter Tryz.func116, Tryz.ntmps116
  go_wp2
  exact bodyPost_ret (v := .agg #[.slice (some ⟨w.heap.size + 1, 0, none⟩) 2 2, .int .i64 7, .bool false]) (by simp [results, Tryz.results116, go_sem]) rfl ⟨rfl, dP w _ 3 #[.int .i64 (-1), .int .i64 (-1)], ((Below.refl _ _).alloc (Nat.le_refl _) _).alloc (by simp) _⟩
theorem SQ (op : Int) (w : World) (h : op = 6 ∨ op = 7 ∨ op = 8 ∨ op = 9) : Calls Tryz.prog 116 #[.int .i64 op] w fun e w' => ShR e w w' op := by
 rcases h with rfl | rfl | rfl | rfl
 all_goals
  go_enter Tryz.func116, Tryz.ntmps116
  go_wp2
  exact bodyPost_ret (v := .agg #[.slice (some ⟨w.heap.size + 1, 0, none⟩) 2 2, .int .i64 7, .bool false]) (by simp [results, Tryz.results116, go_sem]) rfl ⟨rfl, dP w _ 3 #[.int .i64 (-2), .int .i64 (-2)], ((Below.refl _ _).alloc (Nat.le_refl _) _).alloc (by simp) _⟩
theorem SS (op : Int) (w : World) (h : op = 10) : Calls Tryz.prog 116 #[.int .i64 op] w fun e w' => ShR e w w' op := by
 rcases h with rfl
 all_goals
  go_enter Tryz.func116, Tryz.ntmps116
  go_wp2
  exact bodyPost_ret (v := .agg #[.slice (some ⟨w.heap.size + 1, 0, none⟩) 2 2, .int .i64 7, .bool false]) (by simp [results, Tryz.results116, go_sem]) rfl ⟨rfl, dP w _ 3 #[.int .i64 4, .int .i64 5], ((Below.refl _ _).alloc (Nat.le_refl _) _).alloc (by simp) _⟩
theorem SX (op : Int) (w : World) (h : op = 11) : Calls Tryz.prog 116 #[.int .i64 op] w fun e w' => ShR e w w' op := by
 rcases h with rfl
 all_goals
  go_enter Tryz.func116, Tryz.ntmps116
  go_wp2
  exact bodyPost_ret (v := .agg #[.slice (some ⟨w.heap.size + 1, 0, none⟩) 2 2, .int .i64 7, .bool false]) (by simp [results, Tryz.results116, go_sem]) rfl ⟨rfl, dP w _ 3 #[.int .i64 5, .int .i64 4], ((Below.refl _ _).alloc (Nat.le_refl _) _).alloc (by simp) _⟩
theorem SY (op : Int) (w : World) (h : op = 12 ∨ op = 13) : Calls Tryz.prog 116 #[.int .i64 op] w fun e w' => ShR e w w' op := by
 rcases h with rfl | rfl
 all_goals
  go_enter Tryz.func116, Tryz.ntmps116
  go_wp2
  exact bodyPost_ret (v := .agg #[.slice (some ⟨w.heap.size + 1, 0, none⟩) 1 1, .int .i64 7, .bool false]) (by simp [results, Tryz.results116, go_sem]) rfl ⟨rfl, dP w _ 3 #[.int .i64 (-1)], ((Below.refl _ _).alloc (Nat.le_refl _) _).alloc (by simp) _⟩
theorem S9 (op : Int) (w : World) (h : op = 14) : Calls Tryz.prog 116 #[.int .i64 op] w fun e w' => ShR e w w' op := by
 rcases h with rfl
 all_goals
  go_enter Tryz.func116, Tryz.ntmps116
  go_wp2
  exact bodyPost_ret (v := .agg #[.slice (some ⟨w.heap.size + 1, 0, none⟩) 1 1, .int .i64 2, .bool false]) (by simp [results, Tryz.results116, go_sem]) rfl ⟨rfl, dP w _ 3 #[.int .i64 (-1)], ((Below.refl _ _).alloc (Nat.le_refl _) _).alloc (by simp) _⟩
theorem Tc (op : Int) (w : World) (h : op = 15 ∨ op = 16 ∨ op = 17 ∨ op = 18 ∨ op = 19) : Calls Tryz.prog 116 #[.int .i64 op] w fun e w' => ShR e w w' op := by
 rcases h with rfl | rfl | rfl | rfl | rfl
 all_goals
  go_enter Tryz.func116, Tryz.ntmps116
  go_wp2
  exact bodyPost_ret (v := .agg #[.slice (some ⟨w.heap.size + 1, 0, none⟩) 2 2, .int .i64 2, .bool false]) (by simp [results, Tryz.results116, go_sem]) rfl ⟨rfl, dP w _ 3 #[.int .i64 2, .int .i64 2], ((Below.refl _ _).alloc (Nat.le_refl _) _).alloc (by simp) _⟩
theorem Td (op : Int) (w : World) (h : op = 20 ∨ op = 21 ∨ op = 22 ∨ op = 23) : Calls Tryz.prog 116 #[.int .i64 op] w fun e w' => ShR e w w' op := by
 rcases h with rfl | rfl | rfl | rfl
 all_goals
  go_enter Tryz.func116, Tryz.ntmps116
  go_wp2
  exact bodyPost_ret (v := .agg #[.slice (some ⟨w.heap.size + 1, 0, none⟩) 1 1, .int .i64 2, .bool false]) (by simp [results, Tryz.results116, go_sem]) rfl ⟨rfl, dP w _ 3 #[.int .i64 2], ((Below.refl _ _).alloc (Nat.le_refl _) _).alloc (by simp) _⟩
theorem O4 (op : Int) (w : World) (h : op = 24 ∨ op = 25) : Calls Tryz.prog 116 #[.int .i64 op] w fun e w' => ShR e w w' op := by
 rcases h with rfl | rfl
 all_goals
  go_enter Tryz.func116, Tryz.ntmps116
  go_wp2
  exact bodyPost_ret (v := .agg #[.slice (some ⟨w.heap.size + 1, 0, none⟩) 1 1, .int .i64 (-2), .bool true]) (by simp [results, Tryz.results116, go_sem]) rfl ⟨rfl, dP w _ 3 #[.int .i64 (-2)], ((Below.refl _ _).alloc (Nat.le_refl _) _).alloc (by simp) _⟩
theorem O5 (op : Int) (w : World) (h : op = 26) : Calls Tryz.prog 116 #[.int .i64 op] w fun e w' => ShR e w w' op := by
 rcases h with rfl
 all_goals
  go_enter Tryz.func116, Tryz.ntmps116
  go_wp2
  exact bodyPost_ret (v := .agg #[.slice (some ⟨w.heap.size + 1, 0, none⟩) 3 3, .int .i64 (-1), .bool false]) (by simp [results, Tryz.results116, go_sem]) rfl ⟨rfl, dP w _ 3 #[.int .i64 7, .int .i64 (-1), .int .i64 (-1)], ((Below.refl _ _).alloc (Nat.le_refl _) _).alloc (by simp) _⟩
theorem O6 (op : Int) (w : World) (h : op = 27) : Calls Tryz.prog 116 #[.int .i64 op] w fun e w' => ShR e w w' op := by
 rcases h with rfl
 all_goals
  go_enter Tryz.func116, Tryz.ntmps116
  go_wp2
  exact bodyPost_ret (v := .agg #[.slice (some ⟨w.heap.size + 1, 0, none⟩) 2 2, .int .i64 (-1), .bool false]) (by simp [results, Tryz.results116, go_sem]) rfl ⟨rfl, dP w _ 3 #[.int .i64 (-1), .int .i64 (-1)], ((Below.refl _ _).alloc (Nat.le_refl _) _).alloc (by simp) _⟩
theorem O7 (op : Int) (w : World) (h : op = 28) : Calls Tryz.prog 116 #[.int .i64 op] w fun e w' => ShR e w w' op := by
 rcases h with rfl
 all_goals
  go_enter Tryz.func116, Tryz.ntmps116
  go_wp2
  exact bodyPost_ret (v := .agg #[.slice (some ⟨w.heap.size + 1, 0, none⟩) 1 1, .int .i64 2, .bool false]) (by simp [results, Tryz.results116, go_sem]) rfl ⟨rfl, dP w _ 3 #[.int .i64 (-3)], ((Below.refl _ _).alloc (Nat.le_refl _) _).alloc (by simp) _⟩
theorem O8 (op : Int) (w : World) (h : op = 29) : Calls Tryz.prog 116 #[.int .i64 op] w fun e w' => ShR e w w' op := by
 rcases h with rfl
 all_goals
  go_enter Tryz.func116, Tryz.ntmps116
  go_wp2
  exact bodyPost_ret (v := .agg #[.slice (some ⟨w.heap.size + 1, 0, none⟩) 1 1, .int .i64 2, .bool false]) (by simp [results, Tryz.results116, go_sem]) rfl ⟨rfl, dP w _ 3 #[.int .i64 4], ((Below.refl _ _).alloc (Nat.le_refl _) _).alloc (by simp) _⟩
theorem O9 (op : Int) (w : World) (h : op = 30) : Calls Tryz.prog 116 #[.int .i64 op] w fun e w' => ShR e w w' op := by
 rcases h with rfl
 all_goals
  go_enter Tryz.func116, Tryz.ntmps116
  go_wp2
  exact bodyPost_ret (v := .agg #[.slice (some ⟨w.heap.size + 1, 0, none⟩) 1 1, .int .i64 3, .bool false]) (by simp [results, Tryz.results116, go_sem]) rfl ⟨rfl, dP w _ 3 #[.int .i64 3], ((Below.refl _ _).alloc (Nat.le_refl _) _).alloc (by simp) _⟩
theorem Pg (op : Int) (w : World) (h : op = 31) : Calls Tryz.prog 116 #[.int .i64 op] w fun e w' => ShR e w w' op := by
 rcases h with rfl
 all_goals
  go_enter Tryz.func116, Tryz.ntmps116
  go_wp2
  exact bodyPost_ret (v := .agg #[.slice (some ⟨w.heap.size + 1, 0, none⟩) 2 2, .int .i64 3, .bool false]) (by simp [results, Tryz.results116, go_sem]) rfl ⟨rfl, dP w _ 3 #[.int .i64 3, .int .i64 3], ((Below.refl _ _).alloc (Nat.le_refl _) _).alloc (by simp) _⟩
theorem Ph (op : Int) (w : World) (h : op = 32 ∨ op = 33) : Calls Tryz.prog 116 #[.int .i64 op] w fun e w' => ShR e w w' op := by
 rcases h with rfl | rfl
 all_goals
  go_enter Tryz.func116, Tryz.ntmps116
  go_wp2
  exact bodyPost_ret (v := .agg #[.slice (some ⟨w.heap.size + 1, 0, none⟩) 2 2, .int .i64 7, .bool false]) (by simp [results, Tryz.results116, go_sem]) rfl ⟨rfl, dP w _ 3 #[.int .i64 3, .int .i64 3], ((Below.refl _ _).alloc (Nat.le_refl _) _).alloc (by simp) _⟩
theorem Pj (op : Int) (w : World) (h : op = 34 ∨ op = 35 ∨ op = 36) : Calls Tryz.prog 116 #[.int .i64 op] w fun e w' => ShR e w w' op := by
 rcases h with rfl | rfl | rfl
 all_goals
  go_enter Tryz.func116, Tryz.ntmps116
  go_wp2
  exact bodyPost_ret (v := .agg #[.slice (some ⟨w.heap.size + 1, 0, none⟩) 1 1, .int .i64 2, .bool false]) (by simp [results, Tryz.results116, go_sem]) rfl ⟨rfl, dP w _ 3 #[.int .i64 6], ((Below.refl _ _).alloc (Nat.le_refl _) _).alloc (by simp) _⟩
theorem Pm (op : Int) (w : World) (h : op = 37 ∨ op = 38) : Calls Tryz.prog 116 #[.int .i64 op] w fun e w' => ShR e w w' op := by
 rcases h with rfl | rfl
 all_goals
  go_enter Tryz.func116, Tryz.ntmps116
  go_wp2
  exact bodyPost_ret (v := .agg #[.slice (some ⟨w.heap.size + 1, 0, none⟩) 2 2, .int .i64 2, .bool false]) (by simp [results, Tryz.results116, go_sem]) rfl ⟨rfl, dP w _ 3 #[.int .i64 6, .int .i64 6], ((Below.refl _ _).alloc (Nat.le_refl _) _).alloc (by simp) _⟩
theorem Pn (op : Int) (w : World) (h : op = 39) : Calls Tryz.prog 116 #[.int .i64 op] w fun e w' => ShR e w w' op := by
 rcases h with rfl
 all_goals
  go_enter Tryz.func116, Tryz.ntmps116
  go_wp2
  exact bodyPost_ret (v := .agg #[.slice (some ⟨w.heap.size + 1, 0, none⟩) 2 2, .int .i64 6, .bool false]) (by simp [results, Tryz.results116, go_sem]) rfl ⟨rfl, dP w _ 3 #[.int .i64 6, .int .i64 2], ((Below.refl _ _).alloc (Nat.le_refl _) _).alloc (by simp) _⟩
theorem zu (op : Int) (w : World) (h1 : 1 ≤ op) (h2 : op ≤ 39) : Calls Tryz.prog 116 #[.int .i64 op] w fun e w' => ShR e w w' op := by
 obtain rfl | rfl | rfl | rfl | rfl | rfl | rfl | rfl | rfl | rfl | rfl | rfl | rfl | rfl | rfl | rfl | rfl | rfl | rfl | rfl | rfl | rfl | rfl | rfl | rfl | rfl | rfl | rfl | rfl | rfl | rfl | rfl | rfl | rfl | rfl | rfl | rfl | rfl | rfl : op = 1 ∨ op = 2 ∨ op = 3 ∨ op = 4 ∨ op = 5 ∨ op = 6 ∨ op = 7 ∨ op = 8 ∨ op = 9 ∨ op = 10 ∨ op = 11 ∨ op = 12 ∨ op = 13 ∨ op = 14 ∨ op = 15 ∨ op = 16 ∨ op = 17 ∨ op = 18 ∨ op = 19 ∨ op = 20 ∨ op = 21 ∨ op = 22 ∨ op = 23 ∨ op = 24 ∨ op = 25 ∨ op = 26 ∨ op = 27 ∨ op = 28 ∨ op = 29 ∨ op = 30 ∨ op = 31 ∨ op = 32 ∨ op = 33 ∨ op = 34 ∨ op = 35 ∨ op = 36 ∨ op = 37 ∨ op = 38 ∨ op = 39 := by omega
 all_goals first
  | exact SK _ w (by decide)
  | exact SL _ w (by decide)
  | exact SN _ w (by decide)
  | exact SQ _ w (by decide)
  | exact SS _ w (by decide)
  | exact SX _ w (by decide)
  | exact SY _ w (by decide)
  | exact S9 _ w (by decide)
  | exact Tc _ w (by decide)
  | exact Td _ w (by decide)
  | exact O4 _ w (by decide)
  | exact O5 _ w (by decide)
  | exact O6 _ w (by decide)
  | exact O7 _ w (by decide)
  | exact O8 _ w (by decide)
  | exact O9 _ w (by decide)
  | exact Pg _ w (by decide)
  | exact Ph _ w (by decide)
  | exact Pj _ w (by decide)
  | exact Pm _ w (by decide)
  | exact Pn _ w (by decide)
def IW (op : Int) (n : Nat) : Bool := if xe op then decide (2 ≤ n) else decide (n = (oG op).length)
theorem Yn (op : Int) (n : Nat) (h1 : 1 ≤ op) (h2 : op ≤ 39) (hn : n ≤ 1099511627776) : IW op n = !bF n ((iU op).1 : Nat) ((iU op).2 : Nat) := by
 obtain rfl | rfl | rfl | rfl | rfl | rfl | rfl | rfl | rfl | rfl | rfl | rfl | rfl | rfl | rfl | rfl | rfl | rfl | rfl | rfl | rfl | rfl | rfl | rfl | rfl | rfl | rfl | rfl | rfl | rfl | rfl | rfl | rfl | rfl | rfl | rfl | rfl | rfl | rfl : op = 1 ∨ op = 2 ∨ op = 3 ∨ op = 4 ∨ op = 5 ∨ op = 6 ∨ op = 7 ∨ op = 8 ∨ op = 9 ∨ op = 10 ∨ op = 11 ∨ op = 12 ∨ op = 13 ∨ op = 14 ∨ op = 15 ∨ op = 16 ∨ op = 17 ∨ op = 18 ∨ op = 19 ∨ op = 20 ∨ op = 21 ∨ op = 22 ∨ op = 23 ∨ op = 24 ∨ op = 25 ∨ op = 26 ∨ op = 27 ∨ op = 28 ∨ op = 29 ∨ op = 30 ∨ op = 31 ∨ op = 32 ∨ op = 33 ∨ op = 34 ∨ op = 35 ∨ op = 36 ∨ op = 37 ∨ op = 38 ∨ op = 39 := by omega
 all_goals
  simp only [IW, xe, oG, iU, bF]
  rw [Bool.eq_iff_iff]
  simp
  try omega
theorem KY (op : Int) (n : Nat) (w : World) (h1 : 1 ≤ op) (h2 : op ≤ 39) (hn : n ≤ maxLen) :
  Calls Tryz.prog 93 #[.int .i64 op, .int .i64 n] w fun e w' => e = .returned (.bool (IW op n)) ∧ Below w.heap.size w w' := by
 have hne : (oG op).length ≤ 3 := by
  obtain rfl | rfl | rfl | rfl | rfl | rfl | rfl | rfl | rfl | rfl | rfl | rfl | rfl | rfl | rfl | rfl | rfl | rfl | rfl | rfl | rfl | rfl | rfl | rfl | rfl | rfl | rfl | rfl | rfl | rfl | rfl | rfl | rfl | rfl | rfl | rfl | rfl | rfl | rfl : op = 1 ∨ op = 2 ∨ op = 3 ∨ op = 4 ∨ op = 5 ∨ op = 6 ∨ op = 7 ∨ op = 8 ∨ op = 9 ∨ op = 10 ∨ op = 11 ∨ op = 12 ∨ op = 13 ∨ op = 14 ∨ op = 15 ∨ op = 16 ∨ op = 17 ∨ op = 18 ∨ op = 19 ∨ op = 20 ∨ op = 21 ∨ op = 22 ∨ op = 23 ∨ op = 24 ∨ op = 25 ∨ op = 26 ∨ op = 27 ∨ op = 28 ∨ op = 29 ∨ op = 30 ∨ op = 31 ∨ op = 32 ∨ op = 33 ∨ op = 34 ∨ op = 35 ∨ op = 36 ∨ op = 37 ∨ op = 38 ∨ op = 39 := by omega
  all_goals decide
 obtain ⟨m, hm⟩ := ae (xe op)
 obtain ⟨L, hL⟩ := ae ((oG op).length)
 have HM := qh hm
 have HL := qh hL
 rw [hL] at hne
 have HS := qh (fun w' => zu op w' h1 h2)
 unfold maxLen at hn
 clear hm hL
 go_enter Tryz.func93, Tryz.ntmps93
 go_wp2_with fail
 refine (HS.out w).mono ?_
 rintro e w1 ⟨rfl, hB, hb⟩
 rw [HL.out, HM.out]
 clear hB
 cases m
 ·
  have HR := qh (show IW op n = decide (n = L) by unfold IW; rw [HM.out, HL.out]; rfl)
  go_wp2
  go_ret
  exact ⟨aj (by rw [HR.out, Bool.eq_iff_iff]; simp; try omega), hb.alloc hb.size _⟩
 ·
  have HR := qh (show IW op n = decide (2 ≤ n) by unfold IW; rw [HM.out]; rfl)
  go_wp2
  go_ret
  exact ⟨aj (by rw [HR.out, Bool.eq_iff_iff]; simp; try omega), hb.alloc hb.size _⟩
end Go.Proofs.YtobanldeicclmaaGreatDoor
