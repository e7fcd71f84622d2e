/- The walk of the law 'ValueOrderIsTotal', case by case. No condition. -/
import Derived.Test.YtfkgodgjchbbpaaSame
import Derived.Test.YtfkgodgjchbbpaaCmpLaw
namespace Go.Proofs.Ytfkgodgjchbbpaa
open Go.RowKit

set_option maxHeartbeats 1000000 in
theorem total_1 (x y z : Val) (A B C : Option Addr) (c d e1 : Nat) (w : World) (hn : x.l.length ≤ maxLen) (hm : y.l.length ≤ maxLen) (hp : z.l.length ≤ maxLen)
    (hx : Reads w w.heap.size 1 A x.l.length (numV .i64 x.l)) (hy : Reads w w.heap.size 1 B y.l.length (numV .i64 y.l)) (hz : Reads w w.heap.size 1 C z.l.length (numV .i64 z.l)) (hpv : cmpV x y = 1) :
    Calls Try.prog 3 #[.agg #[.int .i64 x.k, .int .i64 x.n, .string x.s, .slice A x.l.length c], .agg #[.int .i64 y.k, .int .i64 y.n, .string y.s, .slice B y.l.length d], .agg #[.int .i64 z.k, .int .i64 z.n, .string z.s, .slice C z.l.length e1]] w
      fun e w' => e = .returned (.bool true) ∧ Below w.heap.size w w' := by
  have Kxy : Hid (∀ w' : World, Below w.heap.size w w' → Calls Try.prog 9 #[.agg #[.int .i64 x.k, .int .i64 x.n, .string x.s, .slice A x.l.length c], .agg #[.int .i64 y.k, .int .i64 y.n, .string y.s, .slice B y.l.length d]] w' fun e w'' => e = .returned (.int .i64 (1)) ∧ Below w'.heap.size w' w'') := Lib.hid fun w' hb => by
    have := compare_any x y A B c d w.heap.size w.heap.size w' hn hm (hx.below hb) (hy.below hb) hb.size hb.size
    rw [show cmpV x y = 1 by first | assumption | (rw [cmpV_anti]; omega) | exact cmpV_self _] at this
    exact this
  have Kyx : Hid (∀ w' : World, Below w.heap.size w w' → Calls Try.prog 9 #[.agg #[.int .i64 y.k, .int .i64 y.n, .string y.s, .slice B y.l.length d], .agg #[.int .i64 x.k, .int .i64 x.n, .string x.s, .slice A x.l.length c]] w' fun e w'' => e = .returned (.int .i64 (-1)) ∧ Below w'.heap.size w' w'') := Lib.hid fun w' hb => by
    have := compare_any y x B A d c w.heap.size w.heap.size w' hm hn (hy.below hb) (hx.below hb) hb.size hb.size
    rw [show cmpV y x = -1 by first | assumption | (rw [cmpV_anti]; omega) | exact cmpV_self _] at this
    exact this
  have Kxx : Hid (∀ w' : World, Below w.heap.size w w' → Calls Try.prog 9 #[.agg #[.int .i64 x.k, .int .i64 x.n, .string x.s, .slice A x.l.length c], .agg #[.int .i64 x.k, .int .i64 x.n, .string x.s, .slice A x.l.length c]] w' fun e w'' => e = .returned (.int .i64 (0)) ∧ Below w'.heap.size w' w'') := Lib.hid fun w' hb => by
    have := compare_any x x A A c c w.heap.size w.heap.size w' hn hn (hx.below hb) (hx.below hb) hb.size hb.size
    rw [show cmpV x x = 0 by first | assumption | (rw [cmpV_anti]; omega) | exact cmpV_self _] at this
    exact this
  clear hpv hn hm hp hx hy hz
  obtain ⟨W, hW⟩ : ∃ W, W = (((w.alloc (.cells #[.int .i64 x.k, .int .i64 x.n, .string x.s, .slice A x.l.length c] 24)).alloc (.cells #[.int .i64 y.k, .int .i64 y.n, .string y.s, .slice B y.l.length d] 24)).alloc (.cells #[.int .i64 z.k, .int .i64 z.n, .string z.s, .slice C z.l.length e1] 24)) := ⟨_, rfl⟩
  have hbW : Below w.heap.size w W := by rw [hW]; exact ((((Below.refl _ _).alloc (Nat.le_refl _) _).alloc (by simp) _).alloc (by simp; omega) _)
  have c0 : W.cell? ⟨w.heap.size, 0, none⟩ = some (.int .i64 x.k) := by rw [hW]; simp [go_sem]
  have c1 : W.cell? ⟨w.heap.size, 1, none⟩ = some (.int .i64 x.n) := by rw [hW]; simp [go_sem]
  have c2 : W.cell? ⟨w.heap.size, 2, none⟩ = some (.string x.s) := by rw [hW]; simp [go_sem]
  have c3 : W.cell? ⟨w.heap.size, 3, none⟩ = some (.slice A x.l.length c) := by rw [hW]; simp [go_sem]
  have c4 : W.cell? ⟨w.heap.size + 1, 0, none⟩ = some (.int .i64 y.k) := by rw [hW]; simp [go_sem]
  have c5 : W.cell? ⟨w.heap.size + 1, 1, none⟩ = some (.int .i64 y.n) := by rw [hW]; simp [go_sem]
  have c6 : W.cell? ⟨w.heap.size + 1, 2, none⟩ = some (.string y.s) := by rw [hW]; simp [go_sem]
  have c7 : W.cell? ⟨w.heap.size + 1, 3, none⟩ = some (.slice B y.l.length d) := by rw [hW]; simp [go_sem]
  have c8 : W.cell? ⟨w.heap.size + 1 + 1, 0, none⟩ = some (.int .i64 z.k) := by rw [hW]; simp [go_sem]
  have c9 : W.cell? ⟨w.heap.size + 1 + 1, 1, none⟩ = some (.int .i64 z.n) := by rw [hW]; simp [go_sem]
  have c10 : W.cell? ⟨w.heap.size + 1 + 1, 2, none⟩ = some (.string z.s) := by rw [hW]; simp [go_sem]
  have c11 : W.cell? ⟨w.heap.size + 1 + 1, 3, none⟩ = some (.slice C z.l.length e1) := by rw [hW]; simp [go_sem]
  have r0 := Later.cell c0
  have r1 := Later.cell c1
  have r2 := Later.cell c2
  have r3 := Later.cell c3
  have r4 := Later.cell c4
  have r5 := Later.cell c5
  have r6 := Later.cell c6
  have r7 := Later.cell c7
  have r8 := Later.cell c8
  have r9 := Later.cell c9
  have r10 := Later.cell c10
  have r11 := Later.cell c11
  have HW := Lib.hid hW
  clear hW
  go_enter Try.func3, Try.ntmps3
  go_wp2_with fail
  rw [← HW.out]
  clear HW
  refine wp_region_later (by kernel_rfl) (by kernel_rfl) ?_
  repeat (go_big_quiet_step (first | with_reducible exact Later.call (fun w' hb => Kxy.out w' (hbW.trans (hb.mono hbW.size))) _ | with_reducible exact Later.call (fun w' hb => Kyx.out w' (hbW.trans (hb.mono hbW.size))) _ | with_reducible exact Later.call (fun w' hb => Kxx.out w' (hbW.trans (hb.mono hbW.size))) _))
  refine wpQuiet_nil ?_
  intro _ hw'
  obtain ⟨⟨W1, hb1⟩, rfl⟩ := hw'
  replace c0 := Below.cell_of hb1 c0
  replace c1 := Below.cell_of hb1 c1
  replace c2 := Below.cell_of hb1 c2
  replace c3 := Below.cell_of hb1 c3
  replace c4 := Below.cell_of hb1 c4
  replace c5 := Below.cell_of hb1 c5
  replace c6 := Below.cell_of hb1 c6
  replace c7 := Below.cell_of hb1 c7
  replace c8 := Below.cell_of hb1 c8
  replace c9 := Below.cell_of hb1 c9
  replace c10 := Below.cell_of hb1 c10
  replace c11 := Below.cell_of hb1 c11
  clear r0 r1 r2 r3 r4 r5 r6 r7 r8 r9 r10 r11
  replace hbW := hbW.trans (hb1.mono hbW.size)
  clear hb1
  go_wp2_with fail
  refine (Kxy.out _ hbW).mono ?_
  rintro e W2 ⟨rfl, hb1⟩
  replace c0 := Below.cell_of hb1 c0
  replace c1 := Below.cell_of hb1 c1
  replace c2 := Below.cell_of hb1 c2
  replace c3 := Below.cell_of hb1 c3
  replace c4 := Below.cell_of hb1 c4
  replace c5 := Below.cell_of hb1 c5
  replace c6 := Below.cell_of hb1 c6
  replace c7 := Below.cell_of hb1 c7
  replace c8 := Below.cell_of hb1 c8
  replace c9 := Below.cell_of hb1 c9
  replace c10 := Below.cell_of hb1 c10
  replace c11 := Below.cell_of hb1 c11
  replace hbW := hbW.trans (hb1.mono hbW.size)
  clear hb1
  go_wp2_with fail
  refine (Kxy.out _ hbW).mono ?_
  rintro e W3 ⟨rfl, hb1⟩
  replace c0 := Below.cell_of hb1 c0
  replace c1 := Below.cell_of hb1 c1
  replace c2 := Below.cell_of hb1 c2
  replace c3 := Below.cell_of hb1 c3
  replace c4 := Below.cell_of hb1 c4
  replace c5 := Below.cell_of hb1 c5
  replace c6 := Below.cell_of hb1 c6
  replace c7 := Below.cell_of hb1 c7
  replace c8 := Below.cell_of hb1 c8
  replace c9 := Below.cell_of hb1 c9
  replace c10 := Below.cell_of hb1 c10
  replace c11 := Below.cell_of hb1 c11
  replace hbW := hbW.trans (hb1.mono hbW.size)
  clear hb1
  go_wp2_with fail
  go_ret
  exact ⟨ret_bool (by first | rfl | decide), hbW⟩

set_option maxHeartbeats 1000000 in
theorem total_1_q1 (x y z : Val) (A B C : Option Addr) (c d e1 : Nat) (w : World) (hn : x.l.length ≤ maxLen) (hm : y.l.length ≤ maxLen) (hp : z.l.length ≤ maxLen)
    (hx : Reads w w.heap.size 1 A x.l.length (numV .i64 x.l)) (hy : Reads w w.heap.size 1 B y.l.length (numV .i64 y.l)) (hz : Reads w w.heap.size 1 C z.l.length (numV .i64 z.l)) (hpv : cmpV x y = 0) (hqv : cmpV y z = 1) :
    Calls Try.prog 3 #[.agg #[.int .i64 x.k, .int .i64 x.n, .string x.s, .slice A x.l.length c], .agg #[.int .i64 y.k, .int .i64 y.n, .string y.s, .slice B y.l.length d], .agg #[.int .i64 z.k, .int .i64 z.n, .string z.s, .slice C z.l.length e1]] w
      fun e w' => e = .returned (.bool true) ∧ Below w.heap.size w w' := by
  have Kxy : Hid (∀ w' : World, Below w.heap.size w w' → Calls Try.prog 9 #[.agg #[.int .i64 x.k, .int .i64 x.n, .string x.s, .slice A x.l.length c], .agg #[.int .i64 y.k, .int .i64 y.n, .string y.s, .slice B y.l.length d]] w' fun e w'' => e = .returned (.int .i64 (0)) ∧ Below w'.heap.size w' w'') := Lib.hid fun w' hb => by
    have := compare_any x y A B c d w.heap.size w.heap.size w' hn hm (hx.below hb) (hy.below hb) hb.size hb.size
    rw [show cmpV x y = 0 by first | assumption | (rw [cmpV_anti]; omega) | exact cmpV_self _] at this
    exact this
  have Kyx : Hid (∀ w' : World, Below w.heap.size w w' → Calls Try.prog 9 #[.agg #[.int .i64 y.k, .int .i64 y.n, .string y.s, .slice B y.l.length d], .agg #[.int .i64 x.k, .int .i64 x.n, .string x.s, .slice A x.l.length c]] w' fun e w'' => e = .returned (.int .i64 (0)) ∧ Below w'.heap.size w' w'') := Lib.hid fun w' hb => by
    have := compare_any y x B A d c w.heap.size w.heap.size w' hm hn (hy.below hb) (hx.below hb) hb.size hb.size
    rw [show cmpV y x = 0 by first | assumption | (rw [cmpV_anti]; omega) | exact cmpV_self _] at this
    exact this
  have Kxx : Hid (∀ w' : World, Below w.heap.size w w' → Calls Try.prog 9 #[.agg #[.int .i64 x.k, .int .i64 x.n, .string x.s, .slice A x.l.length c], .agg #[.int .i64 x.k, .int .i64 x.n, .string x.s, .slice A x.l.length c]] w' fun e w'' => e = .returned (.int .i64 (0)) ∧ Below w'.heap.size w' w'') := Lib.hid fun w' hb => by
    have := compare_any x x A A c c w.heap.size w.heap.size w' hn hn (hx.below hb) (hx.below hb) hb.size hb.size
    rw [show cmpV x x = 0 by first | assumption | (rw [cmpV_anti]; omega) | exact cmpV_self _] at this
    exact this
  have Kyz : Hid (∀ w' : World, Below w.heap.size w w' → Calls Try.prog 9 #[.agg #[.int .i64 y.k, .int .i64 y.n, .string y.s, .slice B y.l.length d], .agg #[.int .i64 z.k, .int .i64 z.n, .string z.s, .slice C z.l.length e1]] w' fun e w'' => e = .returned (.int .i64 (1)) ∧ Below w'.heap.size w' w'') := Lib.hid fun w' hb => by
    have := compare_any y z B C d e1 w.heap.size w.heap.size w' hm hp (hy.below hb) (hz.below hb) hb.size hb.size
    rw [show cmpV y z = 1 by first | assumption | (rw [cmpV_anti]; omega) | exact cmpV_self _] at this
    exact this
  have Ks : Hid (∀ w' : World, Below w.heap.size w w' → Calls Try.prog 10 #[.agg #[.int .i64 x.k, .int .i64 x.n, .string x.s, .slice A x.l.length c], .agg #[.int .i64 y.k, .int .i64 y.n, .string y.s, .slice B y.l.length d]] w' fun e w'' => e = .returned (.bool true) ∧ Below w'.heap.size w' w'') := Lib.hid fun w' hb => by
    have := same_any x y A B c d w.heap.size w.heap.size w' hn hm (hx.below hb) (hy.below hb) hb.size hb.size
    rw [cmpV_zero hpv] at this
    exact this
  clear hpv hqv hn hm hp hx hy hz
  obtain ⟨W, hW⟩ : ∃ W, W = (((w.alloc (.cells #[.int .i64 x.k, .int .i64 x.n, .string x.s, .slice A x.l.length c] 24)).alloc (.cells #[.int .i64 y.k, .int .i64 y.n, .string y.s, .slice B y.l.length d] 24)).alloc (.cells #[.int .i64 z.k, .int .i64 z.n, .string z.s, .slice C z.l.length e1] 24)) := ⟨_, rfl⟩
  have hbW : Below w.heap.size w W := by rw [hW]; exact ((((Below.refl _ _).alloc (Nat.le_refl _) _).alloc (by simp) _).alloc (by simp; omega) _)
  have c0 : W.cell? ⟨w.heap.size, 0, none⟩ = some (.int .i64 x.k) := by rw [hW]; simp [go_sem]
  have c1 : W.cell? ⟨w.heap.size, 1, none⟩ = some (.int .i64 x.n) := by rw [hW]; simp [go_sem]
  have c2 : W.cell? ⟨w.heap.size, 2, none⟩ = some (.string x.s) := by rw [hW]; simp [go_sem]
  have c3 : W.cell? ⟨w.heap.size, 3, none⟩ = some (.slice A x.l.length c) := by rw [hW]; simp [go_sem]
  have c4 : W.cell? ⟨w.heap.size + 1, 0, none⟩ = some (.int .i64 y.k) := by rw [hW]; simp [go_sem]
  have c5 : W.cell? ⟨w.heap.size + 1, 1, none⟩ = some (.int .i64 y.n) := by rw [hW]; simp [go_sem]
  have c6 : W.cell? ⟨w.heap.size + 1, 2, none⟩ = some (.string y.s) := by rw [hW]; simp [go_sem]
  have c7 : W.cell? ⟨w.heap.size + 1, 3, none⟩ = some (.slice B y.l.length d) := by rw [hW]; simp [go_sem]
  have c8 : W.cell? ⟨w.heap.size + 1 + 1, 0, none⟩ = some (.int .i64 z.k) := by rw [hW]; simp [go_sem]
  have c9 : W.cell? ⟨w.heap.size + 1 + 1, 1, none⟩ = some (.int .i64 z.n) := by rw [hW]; simp [go_sem]
  have c10 : W.cell? ⟨w.heap.size + 1 + 1, 2, none⟩ = some (.string z.s) := by rw [hW]; simp [go_sem]
  have c11 : W.cell? ⟨w.heap.size + 1 + 1, 3, none⟩ = some (.slice C z.l.length e1) := by rw [hW]; simp [go_sem]
  have r0 := Later.cell c0
  have r1 := Later.cell c1
  have r2 := Later.cell c2
  have r3 := Later.cell c3
  have r4 := Later.cell c4
  have r5 := Later.cell c5
  have r6 := Later.cell c6
  have r7 := Later.cell c7
  have r8 := Later.cell c8
  have r9 := Later.cell c9
  have r10 := Later.cell c10
  have r11 := Later.cell c11
  have HW := Lib.hid hW
  clear hW
  go_enter Try.func3, Try.ntmps3
  go_wp2_with fail
  rw [← HW.out]
  clear HW
  refine wp_region_later (by kernel_rfl) (by kernel_rfl) ?_
  repeat (go_big_quiet_step (first | with_reducible exact Later.call (fun w' hb => Kxy.out w' (hbW.trans (hb.mono hbW.size))) _ | with_reducible exact Later.call (fun w' hb => Kyx.out w' (hbW.trans (hb.mono hbW.size))) _ | with_reducible exact Later.call (fun w' hb => Kxx.out w' (hbW.trans (hb.mono hbW.size))) _))
  refine wpQuiet_nil ?_
  intro _ hw'
  obtain ⟨⟨W1, hb1⟩, rfl⟩ := hw'
  replace c0 := Below.cell_of hb1 c0
  replace c1 := Below.cell_of hb1 c1
  replace c2 := Below.cell_of hb1 c2
  replace c3 := Below.cell_of hb1 c3
  replace c4 := Below.cell_of hb1 c4
  replace c5 := Below.cell_of hb1 c5
  replace c6 := Below.cell_of hb1 c6
  replace c7 := Below.cell_of hb1 c7
  replace c8 := Below.cell_of hb1 c8
  replace c9 := Below.cell_of hb1 c9
  replace c10 := Below.cell_of hb1 c10
  replace c11 := Below.cell_of hb1 c11
  clear r0 r1 r2 r3 r4 r5 r6 r7 r8 r9 r10 r11
  replace hbW := hbW.trans (hb1.mono hbW.size)
  clear hb1
  go_wp2_with fail
  refine (Kxy.out _ hbW).mono ?_
  rintro e W2 ⟨rfl, hb1⟩
  replace c0 := Below.cell_of hb1 c0
  replace c1 := Below.cell_of hb1 c1
  replace c2 := Below.cell_of hb1 c2
  replace c3 := Below.cell_of hb1 c3
  replace c4 := Below.cell_of hb1 c4
  replace c5 := Below.cell_of hb1 c5
  replace c6 := Below.cell_of hb1 c6
  replace c7 := Below.cell_of hb1 c7
  replace c8 := Below.cell_of hb1 c8
  replace c9 := Below.cell_of hb1 c9
  replace c10 := Below.cell_of hb1 c10
  replace c11 := Below.cell_of hb1 c11
  replace hbW := hbW.trans (hb1.mono hbW.size)
  clear hb1
  go_wp2_with fail
  refine (Ks.out _ hbW).mono ?_
  rintro e W3 ⟨rfl, hb1⟩
  replace c0 := Below.cell_of hb1 c0
  replace c1 := Below.cell_of hb1 c1
  replace c2 := Below.cell_of hb1 c2
  replace c3 := Below.cell_of hb1 c3
  replace c4 := Below.cell_of hb1 c4
  replace c5 := Below.cell_of hb1 c5
  replace c6 := Below.cell_of hb1 c6
  replace c7 := Below.cell_of hb1 c7
  replace c8 := Below.cell_of hb1 c8
  replace c9 := Below.cell_of hb1 c9
  replace c10 := Below.cell_of hb1 c10
  replace c11 := Below.cell_of hb1 c11
  replace hbW := hbW.trans (hb1.mono hbW.size)
  clear hb1
  go_wp2_with fail
  refine (Kxy.out _ hbW).mono ?_
  rintro e W4 ⟨rfl, hb1⟩
  replace c0 := Below.cell_of hb1 c0
  replace c1 := Below.cell_of hb1 c1
  replace c2 := Below.cell_of hb1 c2
  replace c3 := Below.cell_of hb1 c3
  replace c4 := Below.cell_of hb1 c4
  replace c5 := Below.cell_of hb1 c5
  replace c6 := Below.cell_of hb1 c6
  replace c7 := Below.cell_of hb1 c7
  replace c8 := Below.cell_of hb1 c8
  replace c9 := Below.cell_of hb1 c9
  replace c10 := Below.cell_of hb1 c10
  replace c11 := Below.cell_of hb1 c11
  replace hbW := hbW.trans (hb1.mono hbW.size)
  clear hb1
  go_wp2_with fail
  refine (Kyz.out _ hbW).mono ?_
  rintro e W5 ⟨rfl, hb1⟩
  replace c0 := Below.cell_of hb1 c0
  replace c1 := Below.cell_of hb1 c1
  replace c2 := Below.cell_of hb1 c2
  replace c3 := Below.cell_of hb1 c3
  replace c4 := Below.cell_of hb1 c4
  replace c5 := Below.cell_of hb1 c5
  replace c6 := Below.cell_of hb1 c6
  replace c7 := Below.cell_of hb1 c7
  replace c8 := Below.cell_of hb1 c8
  replace c9 := Below.cell_of hb1 c9
  replace c10 := Below.cell_of hb1 c10
  replace c11 := Below.cell_of hb1 c11
  replace hbW := hbW.trans (hb1.mono hbW.size)
  clear hb1
  go_wp2_with fail
  go_ret
  exact ⟨ret_bool (by first | rfl | decide), hbW⟩

set_option maxHeartbeats 1000000 in
theorem total_1_1_1 (x y z : Val) (A B C : Option Addr) (c d e1 : Nat) (w : World) (hn : x.l.length ≤ maxLen) (hm : y.l.length ≤ maxLen) (hp : z.l.length ≤ maxLen)
    (hx : Reads w w.heap.size 1 A x.l.length (numV .i64 x.l)) (hy : Reads w w.heap.size 1 B y.l.length (numV .i64 y.l)) (hz : Reads w w.heap.size 1 C z.l.length (numV .i64 z.l)) (hpv : cmpV x y = 0) (hqv : cmpV y z = 0) (hrv : cmpV x z = 0) :
    Calls Try.prog 3 #[.agg #[.int .i64 x.k, .int .i64 x.n, .string x.s, .slice A x.l.length c], .agg #[.int .i64 y.k, .int .i64 y.n, .string y.s, .slice B y.l.length d], .agg #[.int .i64 z.k, .int .i64 z.n, .string z.s, .slice C z.l.length e1]] w
      fun e w' => e = .returned (.bool true) ∧ Below w.heap.size w w' := by
  have Kxy : Hid (∀ w' : World, Below w.heap.size w w' → Calls Try.prog 9 #[.agg #[.int .i64 x.k, .int .i64 x.n, .string x.s, .slice A x.l.length c], .agg #[.int .i64 y.k, .int .i64 y.n, .string y.s, .slice B y.l.length d]] w' fun e w'' => e = .returned (.int .i64 (0)) ∧ Below w'.heap.size w' w'') := Lib.hid fun w' hb => by
    have := compare_any x y A B c d w.heap.size w.heap.size w' hn hm (hx.below hb) (hy.below hb) hb.size hb.size
    rw [show cmpV x y = 0 by first | assumption | (rw [cmpV_anti]; omega) | exact cmpV_self _] at this
    exact this
  have Kyx : Hid (∀ w' : World, Below w.heap.size w w' → Calls Try.prog 9 #[.agg #[.int .i64 y.k, .int .i64 y.n, .string y.s, .slice B y.l.length d], .agg #[.int .i64 x.k, .int .i64 x.n, .string x.s, .slice A x.l.length c]] w' fun e w'' => e = .returned (.int .i64 (0)) ∧ Below w'.heap.size w' w'') := Lib.hid fun w' hb => by
    have := compare_any y x B A d c w.heap.size w.heap.size w' hm hn (hy.below hb) (hx.below hb) hb.size hb.size
    rw [show cmpV y x = 0 by first | assumption | (rw [cmpV_anti]; omega) | exact cmpV_self _] at this
    exact this
  have Kxx : Hid (∀ w' : World, Below w.heap.size w w' → Calls Try.prog 9 #[.agg #[.int .i64 x.k, .int .i64 x.n, .string x.s, .slice A x.l.length c], .agg #[.int .i64 x.k, .int .i64 x.n, .string x.s, .slice A x.l.length c]] w' fun e w'' => e = .returned (.int .i64 (0)) ∧ Below w'.heap.size w' w'') := Lib.hid fun w' hb => by
    have := compare_any x x A A c c w.heap.size w.heap.size w' hn hn (hx.below hb) (hx.below hb) hb.size hb.size
    rw [show cmpV x x = 0 by first | assumption | (rw [cmpV_anti]; omega) | exact cmpV_self _] at this
    exact this
  have Kyz : Hid (∀ w' : World, Below w.heap.size w w' → Calls Try.prog 9 #[.agg #[.int .i64 y.k, .int .i64 y.n, .string y.s, .slice B y.l.length d], .agg #[.int .i64 z.k, .int .i64 z.n, .string z.s, .slice C z.l.length e1]] w' fun e w'' => e = .returned (.int .i64 (0)) ∧ Below w'.heap.size w' w'') := Lib.hid fun w' hb => by
    have := compare_any y z B C d e1 w.heap.size w.heap.size w' hm hp (hy.below hb) (hz.below hb) hb.size hb.size
    rw [show cmpV y z = 0 by first | assumption | (rw [cmpV_anti]; omega) | exact cmpV_self _] at this
    exact this
  have Kxz : Hid (∀ w' : World, Below w.heap.size w w' → Calls Try.prog 9 #[.agg #[.int .i64 x.k, .int .i64 x.n, .string x.s, .slice A x.l.length c], .agg #[.int .i64 z.k, .int .i64 z.n, .string z.s, .slice C z.l.length e1]] w' fun e w'' => e = .returned (.int .i64 (0)) ∧ Below w'.heap.size w' w'') := Lib.hid fun w' hb => by
    have := compare_any x z A C c e1 w.heap.size w.heap.size w' hn hp (hx.below hb) (hz.below hb) hb.size hb.size
    rw [show cmpV x z = 0 by first | assumption | (rw [cmpV_anti]; omega) | exact cmpV_self _] at this
    exact this
  have Ks : Hid (∀ w' : World, Below w.heap.size w w' → Calls Try.prog 10 #[.agg #[.int .i64 x.k, .int .i64 x.n, .string x.s, .slice A x.l.length c], .agg #[.int .i64 y.k, .int .i64 y.n, .string y.s, .slice B y.l.length d]] w' fun e w'' => e = .returned (.bool true) ∧ Below w'.heap.size w' w'') := Lib.hid fun w' hb => by
    have := same_any x y A B c d w.heap.size w.heap.size w' hn hm (hx.below hb) (hy.below hb) hb.size hb.size
    rw [cmpV_zero hpv] at this
    exact this
  clear hpv hqv hrv hn hm hp hx hy hz
  obtain ⟨W, hW⟩ : ∃ W, W = (((w.alloc (.cells #[.int .i64 x.k, .int .i64 x.n, .string x.s, .slice A x.l.length c] 24)).alloc (.cells #[.int .i64 y.k, .int .i64 y.n, .string y.s, .slice B y.l.length d] 24)).alloc (.cells #[.int .i64 z.k, .int .i64 z.n, .string z.s, .slice C z.l.length e1] 24)) := ⟨_, rfl⟩
  have hbW : Below w.heap.size w W := by rw [hW]; exact ((((Below.refl _ _).alloc (Nat.le_refl _) _).alloc (by simp) _).alloc (by simp; omega) _)
  have c0 : W.cell? ⟨w.heap.size, 0, none⟩ = some (.int .i64 x.k) := by rw [hW]; simp [go_sem]
  have c1 : W.cell? ⟨w.heap.size, 1, none⟩ = some (.int .i64 x.n) := by rw [hW]; simp [go_sem]
  have c2 : W.cell? ⟨w.heap.size, 2, none⟩ = some (.string x.s) := by rw [hW]; simp [go_sem]
  have c3 : W.cell? ⟨w.heap.size, 3, none⟩ = some (.slice A x.l.length c) := by rw [hW]; simp [go_sem]
  have c4 : W.cell? ⟨w.heap.size + 1, 0, none⟩ = some (.int .i64 y.k) := by rw [hW]; simp [go_sem]
  have c5 : W.cell? ⟨w.heap.size + 1, 1, none⟩ = some (.int .i64 y.n) := by rw [hW]; simp [go_sem]
  have c6 : W.cell? ⟨w.heap.size + 1, 2, none⟩ = some (.string y.s) := by rw [hW]; simp [go_sem]
  have c7 : W.cell? ⟨w.heap.size + 1, 3, none⟩ = some (.slice B y.l.length d) := by rw [hW]; simp [go_sem]
  have c8 : W.cell? ⟨w.heap.size + 1 + 1, 0, none⟩ = some (.int .i64 z.k) := by rw [hW]; simp [go_sem]
  have c9 : W.cell? ⟨w.heap.size + 1 + 1, 1, none⟩ = some (.int .i64 z.n) := by rw [hW]; simp [go_sem]
  have c10 : W.cell? ⟨w.heap.size + 1 + 1, 2, none⟩ = some (.string z.s) := by rw [hW]; simp [go_sem]
  have c11 : W.cell? ⟨w.heap.size + 1 + 1, 3, none⟩ = some (.slice C z.l.length e1) := by rw [hW]; simp [go_sem]
  have r0 := Later.cell c0
  have r1 := Later.cell c1
  have r2 := Later.cell c2
  have r3 := Later.cell c3
  have r4 := Later.cell c4
  have r5 := Later.cell c5
  have r6 := Later.cell c6
  have r7 := Later.cell c7
  have r8 := Later.cell c8
  have r9 := Later.cell c9
  have r10 := Later.cell c10
  have r11 := Later.cell c11
  have HW := Lib.hid hW
  clear hW
  go_enter Try.func3, Try.ntmps3
  go_wp2_with fail
  rw [← HW.out]
  clear HW
  refine wp_region_later (by kernel_rfl) (by kernel_rfl) ?_
  repeat (go_big_quiet_step (first | with_reducible exact Later.call (fun w' hb => Kxy.out w' (hbW.trans (hb.mono hbW.size))) _ | with_reducible exact Later.call (fun w' hb => Kyx.out w' (hbW.trans (hb.mono hbW.size))) _ | with_reducible exact Later.call (fun w' hb => Kxx.out w' (hbW.trans (hb.mono hbW.size))) _))
  refine wpQuiet_nil ?_
  intro _ hw'
  obtain ⟨⟨W1, hb1⟩, rfl⟩ := hw'
  replace c0 := Below.cell_of hb1 c0
  replace c1 := Below.cell_of hb1 c1
  replace c2 := Below.cell_of hb1 c2
  replace c3 := Below.cell_of hb1 c3
  replace c4 := Below.cell_of hb1 c4
  replace c5 := Below.cell_of hb1 c5
  replace c6 := Below.cell_of hb1 c6
  replace c7 := Below.cell_of hb1 c7
  replace c8 := Below.cell_of hb1 c8
  replace c9 := Below.cell_of hb1 c9
  replace c10 := Below.cell_of hb1 c10
  replace c11 := Below.cell_of hb1 c11
  clear r0 r1 r2 r3 r4 r5 r6 r7 r8 r9 r10 r11
  replace hbW := hbW.trans (hb1.mono hbW.size)
  clear hb1
  go_wp2_with fail
  refine (Kxy.out _ hbW).mono ?_
  rintro e W2 ⟨rfl, hb1⟩
  replace c0 := Below.cell_of hb1 c0
  replace c1 := Below.cell_of hb1 c1
  replace c2 := Below.cell_of hb1 c2
  replace c3 := Below.cell_of hb1 c3
  replace c4 := Below.cell_of hb1 c4
  replace c5 := Below.cell_of hb1 c5
  replace c6 := Below.cell_of hb1 c6
  replace c7 := Below.cell_of hb1 c7
  replace c8 := Below.cell_of hb1 c8
  replace c9 := Below.cell_of hb1 c9
  replace c10 := Below.cell_of hb1 c10
  replace c11 := Below.cell_of hb1 c11
  replace hbW := hbW.trans (hb1.mono hbW.size)
  clear hb1
  go_wp2_with fail
  refine (Ks.out _ hbW).mono ?_
  rintro e W3 ⟨rfl, hb1⟩
  replace c0 := Below.cell_of hb1 c0
  replace c1 := Below.cell_of hb1 c1
  replace c2 := Below.cell_of hb1 c2
  replace c3 := Below.cell_of hb1 c3
  replace c4 := Below.cell_of hb1 c4
  replace c5 := Below.cell_of hb1 c5
  replace c6 := Below.cell_of hb1 c6
  replace c7 := Below.cell_of hb1 c7
  replace c8 := Below.cell_of hb1 c8
  replace c9 := Below.cell_of hb1 c9
  replace c10 := Below.cell_of hb1 c10
  replace c11 := Below.cell_of hb1 c11
  replace hbW := hbW.trans (hb1.mono hbW.size)
  clear hb1
  go_wp2_with fail
  refine (Kxy.out _ hbW).mono ?_
  rintro e W4 ⟨rfl, hb1⟩
  replace c0 := Below.cell_of hb1 c0
  replace c1 := Below.cell_of hb1 c1
  replace c2 := Below.cell_of hb1 c2
  replace c3 := Below.cell_of hb1 c3
  replace c4 := Below.cell_of hb1 c4
  replace c5 := Below.cell_of hb1 c5
  replace c6 := Below.cell_of hb1 c6
  replace c7 := Below.cell_of hb1 c7
  replace c8 := Below.cell_of hb1 c8
  replace c9 := Below.cell_of hb1 c9
  replace c10 := Below.cell_of hb1 c10
  replace c11 := Below.cell_of hb1 c11
  replace hbW := hbW.trans (hb1.mono hbW.size)
  clear hb1
  go_wp2_with fail
  refine (Kyz.out _ hbW).mono ?_
  rintro e W5 ⟨rfl, hb1⟩
  replace c0 := Below.cell_of hb1 c0
  replace c1 := Below.cell_of hb1 c1
  replace c2 := Below.cell_of hb1 c2
  replace c3 := Below.cell_of hb1 c3
  replace c4 := Below.cell_of hb1 c4
  replace c5 := Below.cell_of hb1 c5
  replace c6 := Below.cell_of hb1 c6
  replace c7 := Below.cell_of hb1 c7
  replace c8 := Below.cell_of hb1 c8
  replace c9 := Below.cell_of hb1 c9
  replace c10 := Below.cell_of hb1 c10
  replace c11 := Below.cell_of hb1 c11
  replace hbW := hbW.trans (hb1.mono hbW.size)
  clear hb1
  go_wp2_with fail
  refine (Kxz.out _ hbW).mono ?_
  rintro e W6 ⟨rfl, hb1⟩
  replace c0 := Below.cell_of hb1 c0
  replace c1 := Below.cell_of hb1 c1
  replace c2 := Below.cell_of hb1 c2
  replace c3 := Below.cell_of hb1 c3
  replace c4 := Below.cell_of hb1 c4
  replace c5 := Below.cell_of hb1 c5
  replace c6 := Below.cell_of hb1 c6
  replace c7 := Below.cell_of hb1 c7
  replace c8 := Below.cell_of hb1 c8
  replace c9 := Below.cell_of hb1 c9
  replace c10 := Below.cell_of hb1 c10
  replace c11 := Below.cell_of hb1 c11
  replace hbW := hbW.trans (hb1.mono hbW.size)
  clear hb1
  go_wp2_with fail
  go_ret
  exact ⟨ret_bool (by first | rfl | decide), hbW⟩

set_option maxHeartbeats 1000000 in
theorem total_1_1_0 (x y z : Val) (A B C : Option Addr) (c d e1 : Nat) (w : World) (hn : x.l.length ≤ maxLen) (hm : y.l.length ≤ maxLen) (hp : z.l.length ≤ maxLen)
    (hx : Reads w w.heap.size 1 A x.l.length (numV .i64 x.l)) (hy : Reads w w.heap.size 1 B y.l.length (numV .i64 y.l)) (hz : Reads w w.heap.size 1 C z.l.length (numV .i64 z.l)) (hpv : cmpV x y = 0) (hqv : cmpV y z = 0) (hrv : cmpV x z = -1) :
    Calls Try.prog 3 #[.agg #[.int .i64 x.k, .int .i64 x.n, .string x.s, .slice A x.l.length c], .agg #[.int .i64 y.k, .int .i64 y.n, .string y.s, .slice B y.l.length d], .agg #[.int .i64 z.k, .int .i64 z.n, .string z.s, .slice C z.l.length e1]] w
      fun e w' => e = .returned (.bool true) ∧ Below w.heap.size w w' := by
  have Kxy : Hid (∀ w' : World, Below w.heap.size w w' → Calls Try.prog 9 #[.agg #[.int .i64 x.k, .int .i64 x.n, .string x.s, .slice A x.l.length c], .agg #[.int .i64 y.k, .int .i64 y.n, .string y.s, .slice B y.l.length d]] w' fun e w'' => e = .returned (.int .i64 (0)) ∧ Below w'.heap.size w' w'') := Lib.hid fun w' hb => by
    have := compare_any x y A B c d w.heap.size w.heap.size w' hn hm (hx.below hb) (hy.below hb) hb.size hb.size
    rw [show cmpV x y = 0 by first | assumption | (rw [cmpV_anti]; omega) | exact cmpV_self _] at this
    exact this
  have Kyx : Hid (∀ w' : World, Below w.heap.size w w' → Calls Try.prog 9 #[.agg #[.int .i64 y.k, .int .i64 y.n, .string y.s, .slice B y.l.length d], .agg #[.int .i64 x.k, .int .i64 x.n, .string x.s, .slice A x.l.length c]] w' fun e w'' => e = .returned (.int .i64 (0)) ∧ Below w'.heap.size w' w'') := Lib.hid fun w' hb => by
    have := compare_any y x B A d c w.heap.size w.heap.size w' hm hn (hy.below hb) (hx.below hb) hb.size hb.size
    rw [show cmpV y x = 0 by first | assumption | (rw [cmpV_anti]; omega) | exact cmpV_self _] at this
    exact this
  have Kxx : Hid (∀ w' : World, Below w.heap.size w w' → Calls Try.prog 9 #[.agg #[.int .i64 x.k, .int .i64 x.n, .string x.s, .slice A x.l.length c], .agg #[.int .i64 x.k, .int .i64 x.n, .string x.s, .slice A x.l.length c]] w' fun e w'' => e = .returned (.int .i64 (0)) ∧ Below w'.heap.size w' w'') := Lib.hid fun w' hb => by
    have := compare_any x x A A c c w.heap.size w.heap.size w' hn hn (hx.below hb) (hx.below hb) hb.size hb.size
    rw [show cmpV x x = 0 by first | assumption | (rw [cmpV_anti]; omega) | exact cmpV_self _] at this
    exact this
  have Kyz : Hid (∀ w' : World, Below w.heap.size w w' → Calls Try.prog 9 #[.agg #[.int .i64 y.k, .int .i64 y.n, .string y.s, .slice B y.l.length d], .agg #[.int .i64 z.k, .int .i64 z.n, .string z.s, .slice C z.l.length e1]] w' fun e w'' => e = .returned (.int .i64 (0)) ∧ Below w'.heap.size w' w'') := Lib.hid fun w' hb => by
    have := compare_any y z B C d e1 w.heap.size w.heap.size w' hm hp (hy.below hb) (hz.below hb) hb.size hb.size
    rw [show cmpV y z = 0 by first | assumption | (rw [cmpV_anti]; omega) | exact cmpV_self _] at this
    exact this
  have Kxz : Hid (∀ w' : World, Below w.heap.size w w' → Calls Try.prog 9 #[.agg #[.int .i64 x.k, .int .i64 x.n, .string x.s, .slice A x.l.length c], .agg #[.int .i64 z.k, .int .i64 z.n, .string z.s, .slice C z.l.length e1]] w' fun e w'' => e = .returned (.int .i64 (-1)) ∧ Below w'.heap.size w' w'') := Lib.hid fun w' hb => by
    have := compare_any x z A C c e1 w.heap.size w.heap.size w' hn hp (hx.below hb) (hz.below hb) hb.size hb.size
    rw [show cmpV x z = -1 by first | assumption | (rw [cmpV_anti]; omega) | exact cmpV_self _] at this
    exact this
  have Ks : Hid (∀ w' : World, Below w.heap.size w w' → Calls Try.prog 10 #[.agg #[.int .i64 x.k, .int .i64 x.n, .string x.s, .slice A x.l.length c], .agg #[.int .i64 y.k, .int .i64 y.n, .string y.s, .slice B y.l.length d]] w' fun e w'' => e = .returned (.bool true) ∧ Below w'.heap.size w' w'') := Lib.hid fun w' hb => by
    have := same_any x y A B c d w.heap.size w.heap.size w' hn hm (hx.below hb) (hy.below hb) hb.size hb.size
    rw [cmpV_zero hpv] at this
    exact this
  clear hpv hqv hrv hn hm hp hx hy hz
  obtain ⟨W, hW⟩ : ∃ W, W = (((w.alloc (.cells #[.int .i64 x.k, .int .i64 x.n, .string x.s, .slice A x.l.length c] 24)).alloc (.cells #[.int .i64 y.k, .int .i64 y.n, .string y.s, .slice B y.l.length d] 24)).alloc (.cells #[.int .i64 z.k, .int .i64 z.n, .string z.s, .slice C z.l.length e1] 24)) := ⟨_, rfl⟩
  have hbW : Below w.heap.size w W := by rw [hW]; exact ((((Below.refl _ _).alloc (Nat.le_refl _) _).alloc (by simp) _).alloc (by simp; omega) _)
  have c0 : W.cell? ⟨w.heap.size, 0, none⟩ = some (.int .i64 x.k) := by rw [hW]; simp [go_sem]
  have c1 : W.cell? ⟨w.heap.size, 1, none⟩ = some (.int .i64 x.n) := by rw [hW]; simp [go_sem]
  have c2 : W.cell? ⟨w.heap.size, 2, none⟩ = some (.string x.s) := by rw [hW]; simp [go_sem]
  have c3 : W.cell? ⟨w.heap.size, 3, none⟩ = some (.slice A x.l.length c) := by rw [hW]; simp [go_sem]
  have c4 : W.cell? ⟨w.heap.size + 1, 0, none⟩ = some (.int .i64 y.k) := by rw [hW]; simp [go_sem]
  have c5 : W.cell? ⟨w.heap.size + 1, 1, none⟩ = some (.int .i64 y.n) := by rw [hW]; simp [go_sem]
  have c6 : W.cell? ⟨w.heap.size + 1, 2, none⟩ = some (.string y.s) := by rw [hW]; simp [go_sem]
  have c7 : W.cell? ⟨w.heap.size + 1, 3, none⟩ = some (.slice B y.l.length d) := by rw [hW]; simp [go_sem]
  have c8 : W.cell? ⟨w.heap.size + 1 + 1, 0, none⟩ = some (.int .i64 z.k) := by rw [hW]; simp [go_sem]
  have c9 : W.cell? ⟨w.heap.size + 1 + 1, 1, none⟩ = some (.int .i64 z.n) := by rw [hW]; simp [go_sem]
  have c10 : W.cell? ⟨w.heap.size + 1 + 1, 2, none⟩ = some (.string z.s) := by rw [hW]; simp [go_sem]
  have c11 : W.cell? ⟨w.heap.size + 1 + 1, 3, none⟩ = some (.slice C z.l.length e1) := by rw [hW]; simp [go_sem]
  have r0 := Later.cell c0
  have r1 := Later.cell c1
  have r2 := Later.cell c2
  have r3 := Later.cell c3
  have r4 := Later.cell c4
  have r5 := Later.cell c5
  have r6 := Later.cell c6
  have r7 := Later.cell c7
  have r8 := Later.cell c8
  have r9 := Later.cell c9
  have r10 := Later.cell c10
  have r11 := Later.cell c11
  have HW := Lib.hid hW
  clear hW
  go_enter Try.func3, Try.ntmps3
  go_wp2_with fail
  rw [← HW.out]
  clear HW
  refine wp_region_later (by kernel_rfl) (by kernel_rfl) ?_
  repeat (go_big_quiet_step (first | with_reducible exact Later.call (fun w' hb => Kxy.out w' (hbW.trans (hb.mono hbW.size))) _ | with_reducible exact Later.call (fun w' hb => Kyx.out w' (hbW.trans (hb.mono hbW.size))) _ | with_reducible exact Later.call (fun w' hb => Kxx.out w' (hbW.trans (hb.mono hbW.size))) _))
  refine wpQuiet_nil ?_
  intro _ hw'
  obtain ⟨⟨W1, hb1⟩, rfl⟩ := hw'
  replace c0 := Below.cell_of hb1 c0
  replace c1 := Below.cell_of hb1 c1
  replace c2 := Below.cell_of hb1 c2
  replace c3 := Below.cell_of hb1 c3
  replace c4 := Below.cell_of hb1 c4
  replace c5 := Below.cell_of hb1 c5
  replace c6 := Below.cell_of hb1 c6
  replace c7 := Below.cell_of hb1 c7
  replace c8 := Below.cell_of hb1 c8
  replace c9 := Below.cell_of hb1 c9
  replace c10 := Below.cell_of hb1 c10
  replace c11 := Below.cell_of hb1 c11
  clear r0 r1 r2 r3 r4 r5 r6 r7 r8 r9 r10 r11
  replace hbW := hbW.trans (hb1.mono hbW.size)
  clear hb1
  go_wp2_with fail
  refine (Kxy.out _ hbW).mono ?_
  rintro e W2 ⟨rfl, hb1⟩
  replace c0 := Below.cell_of hb1 c0
  replace c1 := Below.cell_of hb1 c1
  replace c2 := Below.cell_of hb1 c2
  replace c3 := Below.cell_of hb1 c3
  replace c4 := Below.cell_of hb1 c4
  replace c5 := Below.cell_of hb1 c5
  replace c6 := Below.cell_of hb1 c6
  replace c7 := Below.cell_of hb1 c7
  replace c8 := Below.cell_of hb1 c8
  replace c9 := Below.cell_of hb1 c9
  replace c10 := Below.cell_of hb1 c10
  replace c11 := Below.cell_of hb1 c11
  replace hbW := hbW.trans (hb1.mono hbW.size)
  clear hb1
  go_wp2_with fail
  refine (Ks.out _ hbW).mono ?_
  rintro e W3 ⟨rfl, hb1⟩
  replace c0 := Below.cell_of hb1 c0
  replace c1 := Below.cell_of hb1 c1
  replace c2 := Below.cell_of hb1 c2
  replace c3 := Below.cell_of hb1 c3
  replace c4 := Below.cell_of hb1 c4
  replace c5 := Below.cell_of hb1 c5
  replace c6 := Below.cell_of hb1 c6
  replace c7 := Below.cell_of hb1 c7
  replace c8 := Below.cell_of hb1 c8
  replace c9 := Below.cell_of hb1 c9
  replace c10 := Below.cell_of hb1 c10
  replace c11 := Below.cell_of hb1 c11
  replace hbW := hbW.trans (hb1.mono hbW.size)
  clear hb1
  go_wp2_with fail
  refine (Kxy.out _ hbW).mono ?_
  rintro e W4 ⟨rfl, hb1⟩
  replace c0 := Below.cell_of hb1 c0
  replace c1 := Below.cell_of hb1 c1
  replace c2 := Below.cell_of hb1 c2
  replace c3 := Below.cell_of hb1 c3
  replace c4 := Below.cell_of hb1 c4
  replace c5 := Below.cell_of hb1 c5
  replace c6 := Below.cell_of hb1 c6
  replace c7 := Below.cell_of hb1 c7
  replace c8 := Below.cell_of hb1 c8
  replace c9 := Below.cell_of hb1 c9
  replace c10 := Below.cell_of hb1 c10
  replace c11 := Below.cell_of hb1 c11
  replace hbW := hbW.trans (hb1.mono hbW.size)
  clear hb1
  go_wp2_with fail
  refine (Kyz.out _ hbW).mono ?_
  rintro e W5 ⟨rfl, hb1⟩
  replace c0 := Below.cell_of hb1 c0
  replace c1 := Below.cell_of hb1 c1
  replace c2 := Below.cell_of hb1 c2
  replace c3 := Below.cell_of hb1 c3
  replace c4 := Below.cell_of hb1 c4
  replace c5 := Below.cell_of hb1 c5
  replace c6 := Below.cell_of hb1 c6
  replace c7 := Below.cell_of hb1 c7
  replace c8 := Below.cell_of hb1 c8
  replace c9 := Below.cell_of hb1 c9
  replace c10 := Below.cell_of hb1 c10
  replace c11 := Below.cell_of hb1 c11
  replace hbW := hbW.trans (hb1.mono hbW.size)
  clear hb1
  go_wp2_with fail
  refine (Kxz.out _ hbW).mono ?_
  rintro e W6 ⟨rfl, hb1⟩
  replace c0 := Below.cell_of hb1 c0
  replace c1 := Below.cell_of hb1 c1
  replace c2 := Below.cell_of hb1 c2
  replace c3 := Below.cell_of hb1 c3
  replace c4 := Below.cell_of hb1 c4
  replace c5 := Below.cell_of hb1 c5
  replace c6 := Below.cell_of hb1 c6
  replace c7 := Below.cell_of hb1 c7
  replace c8 := Below.cell_of hb1 c8
  replace c9 := Below.cell_of hb1 c9
  replace c10 := Below.cell_of hb1 c10
  replace c11 := Below.cell_of hb1 c11
  replace hbW := hbW.trans (hb1.mono hbW.size)
  clear hb1
  go_wp2_with fail
  go_ret
  exact ⟨ret_bool (by first | rfl | decide), hbW⟩

set_option maxHeartbeats 1000000 in
theorem total_1_0_1 (x y z : Val) (A B C : Option Addr) (c d e1 : Nat) (w : World) (hn : x.l.length ≤ maxLen) (hm : y.l.length ≤ maxLen) (hp : z.l.length ≤ maxLen)
    (hx : Reads w w.heap.size 1 A x.l.length (numV .i64 x.l)) (hy : Reads w w.heap.size 1 B y.l.length (numV .i64 y.l)) (hz : Reads w w.heap.size 1 C z.l.length (numV .i64 z.l)) (hpv : cmpV x y = 0) (hqv : cmpV y z = -1) (hrv : cmpV x z = 0) :
    Calls Try.prog 3 #[.agg #[.int .i64 x.k, .int .i64 x.n, .string x.s, .slice A x.l.length c], .agg #[.int .i64 y.k, .int .i64 y.n, .string y.s, .slice B y.l.length d], .agg #[.int .i64 z.k, .int .i64 z.n, .string z.s, .slice C z.l.length e1]] w
      fun e w' => e = .returned (.bool true) ∧ Below w.heap.size w w' := by
  have Kxy : Hid (∀ w' : World, Below w.heap.size w w' → Calls Try.prog 9 #[.agg #[.int .i64 x.k, .int .i64 x.n, .string x.s, .slice A x.l.length c], .agg #[.int .i64 y.k, .int .i64 y.n, .string y.s, .slice B y.l.length d]] w' fun e w'' => e = .returned (.int .i64 (0)) ∧ Below w'.heap.size w' w'') := Lib.hid fun w' hb => by
    have := compare_any x y A B c d w.heap.size w.heap.size w' hn hm (hx.below hb) (hy.below hb) hb.size hb.size
    rw [show cmpV x y = 0 by first | assumption | (rw [cmpV_anti]; omega) | exact cmpV_self _] at this
    exact this
  have Kyx : Hid (∀ w' : World, Below w.heap.size w w' → Calls Try.prog 9 #[.agg #[.int .i64 y.k, .int .i64 y.n, .string y.s, .slice B y.l.length d], .agg #[.int .i64 x.k, .int .i64 x.n, .string x.s, .slice A x.l.length c]] w' fun e w'' => e = .returned (.int .i64 (0)) ∧ Below w'.heap.size w' w'') := Lib.hid fun w' hb => by
    have := compare_any y x B A d c w.heap.size w.heap.size w' hm hn (hy.below hb) (hx.below hb) hb.size hb.size
    rw [show cmpV y x = 0 by first | assumption | (rw [cmpV_anti]; omega) | exact cmpV_self _] at this
    exact this
  have Kxx : Hid (∀ w' : World, Below w.heap.size w w' → Calls Try.prog 9 #[.agg #[.int .i64 x.k, .int .i64 x.n, .string x.s, .slice A x.l.length c], .agg #[.int .i64 x.k, .int .i64 x.n, .string x.s, .slice A x.l.length c]] w' fun e w'' => e = .returned (.int .i64 (0)) ∧ Below w'.heap.size w' w'') := Lib.hid fun w' hb => by
    have := compare_any x x A A c c w.heap.size w.heap.size w' hn hn (hx.below hb) (hx.below hb) hb.size hb.size
    rw [show cmpV x x = 0 by first | assumption | (rw [cmpV_anti]; omega) | exact cmpV_self _] at this
    exact this
  have Kyz : Hid (∀ w' : World, Below w.heap.size w w' → Calls Try.prog 9 #[.agg #[.int .i64 y.k, .int .i64 y.n, .string y.s, .slice B y.l.length d], .agg #[.int .i64 z.k, .int .i64 z.n, .string z.s, .slice C z.l.length e1]] w' fun e w'' => e = .returned (.int .i64 (-1)) ∧ Below w'.heap.size w' w'') := Lib.hid fun w' hb => by
    have := compare_any y z B C d e1 w.heap.size w.heap.size w' hm hp (hy.below hb) (hz.below hb) hb.size hb.size
    rw [show cmpV y z = -1 by first | assumption | (rw [cmpV_anti]; omega) | exact cmpV_self _] at this
    exact this
  have Kxz : Hid (∀ w' : World, Below w.heap.size w w' → Calls Try.prog 9 #[.agg #[.int .i64 x.k, .int .i64 x.n, .string x.s, .slice A x.l.length c], .agg #[.int .i64 z.k, .int .i64 z.n, .string z.s, .slice C z.l.length e1]] w' fun e w'' => e = .returned (.int .i64 (0)) ∧ Below w'.heap.size w' w'') := Lib.hid fun w' hb => by
    have := compare_any x z A C c e1 w.heap.size w.heap.size w' hn hp (hx.below hb) (hz.below hb) hb.size hb.size
    rw [show cmpV x z = 0 by first | assumption | (rw [cmpV_anti]; omega) | exact cmpV_self _] at this
    exact this
  have Ks : Hid (∀ w' : World, Below w.heap.size w w' → Calls Try.prog 10 #[.agg #[.int .i64 x.k, .int .i64 x.n, .string x.s, .slice A x.l.length c], .agg #[.int .i64 y.k, .int .i64 y.n, .string y.s, .slice B y.l.length d]] w' fun e w'' => e = .returned (.bool true) ∧ Below w'.heap.size w' w'') := Lib.hid fun w' hb => by
    have := same_any x y A B c d w.heap.size w.heap.size w' hn hm (hx.below hb) (hy.below hb) hb.size hb.size
    rw [cmpV_zero hpv] at this
    exact this
  clear hpv hqv hrv hn hm hp hx hy hz
  obtain ⟨W, hW⟩ : ∃ W, W = (((w.alloc (.cells #[.int .i64 x.k, .int .i64 x.n, .string x.s, .slice A x.l.length c] 24)).alloc (.cells #[.int .i64 y.k, .int .i64 y.n, .string y.s, .slice B y.l.length d] 24)).alloc (.cells #[.int .i64 z.k, .int .i64 z.n, .string z.s, .slice C z.l.length e1] 24)) := ⟨_, rfl⟩
  have hbW : Below w.heap.size w W := by rw [hW]; exact ((((Below.refl _ _).alloc (Nat.le_refl _) _).alloc (by simp) _).alloc (by simp; omega) _)
  have c0 : W.cell? ⟨w.heap.size, 0, none⟩ = some (.int .i64 x.k) := by rw [hW]; simp [go_sem]
  have c1 : W.cell? ⟨w.heap.size, 1, none⟩ = some (.int .i64 x.n) := by rw [hW]; simp [go_sem]
  have c2 : W.cell? ⟨w.heap.size, 2, none⟩ = some (.string x.s) := by rw [hW]; simp [go_sem]
  have c3 : W.cell? ⟨w.heap.size, 3, none⟩ = some (.slice A x.l.length c) := by rw [hW]; simp [go_sem]
  have c4 : W.cell? ⟨w.heap.size + 1, 0, none⟩ = some (.int .i64 y.k) := by rw [hW]; simp [go_sem]
  have c5 : W.cell? ⟨w.heap.size + 1, 1, none⟩ = some (.int .i64 y.n) := by rw [hW]; simp [go_sem]
  have c6 : W.cell? ⟨w.heap.size + 1, 2, none⟩ = some (.string y.s) := by rw [hW]; simp [go_sem]
  have c7 : W.cell? ⟨w.heap.size + 1, 3, none⟩ = some (.slice B y.l.length d) := by rw [hW]; simp [go_sem]
  have c8 : W.cell? ⟨w.heap.size + 1 + 1, 0, none⟩ = some (.int .i64 z.k) := by rw [hW]; simp [go_sem]
  have c9 : W.cell? ⟨w.heap.size + 1 + 1, 1, none⟩ = some (.int .i64 z.n) := by rw [hW]; simp [go_sem]
  have c10 : W.cell? ⟨w.heap.size + 1 + 1, 2, none⟩ = some (.string z.s) := by rw [hW]; simp [go_sem]
  have c11 : W.cell? ⟨w.heap.size + 1 + 1, 3, none⟩ = some (.slice C z.l.length e1) := by rw [hW]; simp [go_sem]
  have r0 := Later.cell c0
  have r1 := Later.cell c1
  have r2 := Later.cell c2
  have r3 := Later.cell c3
  have r4 := Later.cell c4
  have r5 := Later.cell c5
  have r6 := Later.cell c6
  have r7 := Later.cell c7
  have r8 := Later.cell c8
  have r9 := Later.cell c9
  have r10 := Later.cell c10
  have r11 := Later.cell c11
  have HW := Lib.hid hW
  clear hW
  go_enter Try.func3, Try.ntmps3
  go_wp2_with fail
  rw [← HW.out]
  clear HW
  refine wp_region_later (by kernel_rfl) (by kernel_rfl) ?_
  repeat (go_big_quiet_step (first | with_reducible exact Later.call (fun w' hb => Kxy.out w' (hbW.trans (hb.mono hbW.size))) _ | with_reducible exact Later.call (fun w' hb => Kyx.out w' (hbW.trans (hb.mono hbW.size))) _ | with_reducible exact Later.call (fun w' hb => Kxx.out w' (hbW.trans (hb.mono hbW.size))) _))
  refine wpQuiet_nil ?_
  intro _ hw'
  obtain ⟨⟨W1, hb1⟩, rfl⟩ := hw'
  replace c0 := Below.cell_of hb1 c0
  replace c1 := Below.cell_of hb1 c1
  replace c2 := Below.cell_of hb1 c2
  replace c3 := Below.cell_of hb1 c3
  replace c4 := Below.cell_of hb1 c4
  replace c5 := Below.cell_of hb1 c5
  replace c6 := Below.cell_of hb1 c6
  replace c7 := Below.cell_of hb1 c7
  replace c8 := Below.cell_of hb1 c8
  replace c9 := Below.cell_of hb1 c9
  replace c10 := Below.cell_of hb1 c10
  replace c11 := Below.cell_of hb1 c11
  clear r0 r1 r2 r3 r4 r5 r6 r7 r8 r9 r10 r11
  replace hbW := hbW.trans (hb1.mono hbW.size)
  clear hb1
  go_wp2_with fail
  refine (Kxy.out _ hbW).mono ?_
  rintro e W2 ⟨rfl, hb1⟩
  replace c0 := Below.cell_of hb1 c0
  replace c1 := Below.cell_of hb1 c1
  replace c2 := Below.cell_of hb1 c2
  replace c3 := Below.cell_of hb1 c3
  replace c4 := Below.cell_of hb1 c4
  replace c5 := Below.cell_of hb1 c5
  replace c6 := Below.cell_of hb1 c6
  replace c7 := Below.cell_of hb1 c7
  replace c8 := Below.cell_of hb1 c8
  replace c9 := Below.cell_of hb1 c9
  replace c10 := Below.cell_of hb1 c10
  replace c11 := Below.cell_of hb1 c11
  replace hbW := hbW.trans (hb1.mono hbW.size)
  clear hb1
  go_wp2_with fail
  refine (Ks.out _ hbW).mono ?_
  rintro e W3 ⟨rfl, hb1⟩
  replace c0 := Below.cell_of hb1 c0
  replace c1 := Below.cell_of hb1 c1
  replace c2 := Below.cell_of hb1 c2
  replace c3 := Below.cell_of hb1 c3
  replace c4 := Below.cell_of hb1 c4
  replace c5 := Below.cell_of hb1 c5
  replace c6 := Below.cell_of hb1 c6
  replace c7 := Below.cell_of hb1 c7
  replace c8 := Below.cell_of hb1 c8
  replace c9 := Below.cell_of hb1 c9
  replace c10 := Below.cell_of hb1 c10
  replace c11 := Below.cell_of hb1 c11
  replace hbW := hbW.trans (hb1.mono hbW.size)
  clear hb1
  go_wp2_with fail
  refine (Kxy.out _ hbW).mono ?_
  rintro e W4 ⟨rfl, hb1⟩
  replace c0 := Below.cell_of hb1 c0
  replace c1 := Below.cell_of hb1 c1
  replace c2 := Below.cell_of hb1 c2
  replace c3 := Below.cell_of hb1 c3
  replace c4 := Below.cell_of hb1 c4
  replace c5 := Below.cell_of hb1 c5
  replace c6 := Below.cell_of hb1 c6
  replace c7 := Below.cell_of hb1 c7
  replace c8 := Below.cell_of hb1 c8
  replace c9 := Below.cell_of hb1 c9
  replace c10 := Below.cell_of hb1 c10
  replace c11 := Below.cell_of hb1 c11
  replace hbW := hbW.trans (hb1.mono hbW.size)
  clear hb1
  go_wp2_with fail
  refine (Kyz.out _ hbW).mono ?_
  rintro e W5 ⟨rfl, hb1⟩
  replace c0 := Below.cell_of hb1 c0
  replace c1 := Below.cell_of hb1 c1
  replace c2 := Below.cell_of hb1 c2
  replace c3 := Below.cell_of hb1 c3
  replace c4 := Below.cell_of hb1 c4
  replace c5 := Below.cell_of hb1 c5
  replace c6 := Below.cell_of hb1 c6
  replace c7 := Below.cell_of hb1 c7
  replace c8 := Below.cell_of hb1 c8
  replace c9 := Below.cell_of hb1 c9
  replace c10 := Below.cell_of hb1 c10
  replace c11 := Below.cell_of hb1 c11
  replace hbW := hbW.trans (hb1.mono hbW.size)
  clear hb1
  go_wp2_with fail
  refine (Kxz.out _ hbW).mono ?_
  rintro e W6 ⟨rfl, hb1⟩
  replace c0 := Below.cell_of hb1 c0
  replace c1 := Below.cell_of hb1 c1
  replace c2 := Below.cell_of hb1 c2
  replace c3 := Below.cell_of hb1 c3
  replace c4 := Below.cell_of hb1 c4
  replace c5 := Below.cell_of hb1 c5
  replace c6 := Below.cell_of hb1 c6
  replace c7 := Below.cell_of hb1 c7
  replace c8 := Below.cell_of hb1 c8
  replace c9 := Below.cell_of hb1 c9
  replace c10 := Below.cell_of hb1 c10
  replace c11 := Below.cell_of hb1 c11
  replace hbW := hbW.trans (hb1.mono hbW.size)
  clear hb1
  go_wp2_with fail
  go_ret
  exact ⟨ret_bool (by first | rfl | decide), hbW⟩

set_option maxHeartbeats 1000000 in
theorem total_1_0_0 (x y z : Val) (A B C : Option Addr) (c d e1 : Nat) (w : World) (hn : x.l.length ≤ maxLen) (hm : y.l.length ≤ maxLen) (hp : z.l.length ≤ maxLen)
    (hx : Reads w w.heap.size 1 A x.l.length (numV .i64 x.l)) (hy : Reads w w.heap.size 1 B y.l.length (numV .i64 y.l)) (hz : Reads w w.heap.size 1 C z.l.length (numV .i64 z.l)) (hpv : cmpV x y = 0) (hqv : cmpV y z = -1) (hrv : cmpV x z = -1) :
    Calls Try.prog 3 #[.agg #[.int .i64 x.k, .int .i64 x.n, .string x.s, .slice A x.l.length c], .agg #[.int .i64 y.k, .int .i64 y.n, .string y.s, .slice B y.l.length d], .agg #[.int .i64 z.k, .int .i64 z.n, .string z.s, .slice C z.l.length e1]] w
      fun e w' => e = .returned (.bool true) ∧ Below w.heap.size w w' := by
  have Kxy : Hid (∀ w' : World, Below w.heap.size w w' → Calls Try.prog 9 #[.agg #[.int .i64 x.k, .int .i64 x.n, .string x.s, .slice A x.l.length c], .agg #[.int .i64 y.k, .int .i64 y.n, .string y.s, .slice B y.l.length d]] w' fun e w'' => e = .returned (.int .i64 (0)) ∧ Below w'.heap.size w' w'') := Lib.hid fun w' hb => by
    have := compare_any x y A B c d w.heap.size w.heap.size w' hn hm (hx.below hb) (hy.below hb) hb.size hb.size
    rw [show cmpV x y = 0 by first | assumption | (rw [cmpV_anti]; omega) | exact cmpV_self _] at this
    exact this
  have Kyx : Hid (∀ w' : World, Below w.heap.size w w' → Calls Try.prog 9 #[.agg #[.int .i64 y.k, .int .i64 y.n, .string y.s, .slice B y.l.length d], .agg #[.int .i64 x.k, .int .i64 x.n, .string x.s, .slice A x.l.length c]] w' fun e w'' => e = .returned (.int .i64 (0)) ∧ Below w'.heap.size w' w'') := Lib.hid fun w' hb => by
    have := compare_any y x B A d c w.heap.size w.heap.size w' hm hn (hy.below hb) (hx.below hb) hb.size hb.size
    rw [show cmpV y x = 0 by first | assumption | (rw [cmpV_anti]; omega) | exact cmpV_self _] at this
    exact this
  have Kxx : Hid (∀ w' : World, Below w.heap.size w w' → Calls Try.prog 9 #[.agg #[.int .i64 x.k, .int .i64 x.n, .string x.s, .slice A x.l.length c], .agg #[.int .i64 x.k, .int .i64 x.n, .string x.s, .slice A x.l.length c]] w' fun e w'' => e = .returned (.int .i64 (0)) ∧ Below w'.heap.size w' w'') := Lib.hid fun w' hb => by
    have := compare_any x x A A c c w.heap.size w.heap.size w' hn hn (hx.below hb) (hx.below hb) hb.size hb.size
    rw [show cmpV x x = 0 by first | assumption | (rw [cmpV_anti]; omega) | exact cmpV_self _] at this
    exact this
  have Kyz : Hid (∀ w' : World, Below w.heap.size w w' → Calls Try.prog 9 #[.agg #[.int .i64 y.k, .int .i64 y.n, .string y.s, .slice B y.l.length d], .agg #[.int .i64 z.k, .int .i64 z.n, .string z.s, .slice C z.l.length e1]] w' fun e w'' => e = .returned (.int .i64 (-1)) ∧ Below w'.heap.size w' w'') := Lib.hid fun w' hb => by
    have := compare_any y z B C d e1 w.heap.size w.heap.size w' hm hp (hy.below hb) (hz.below hb) hb.size hb.size
    rw [show cmpV y z = -1 by first | assumption | (rw [cmpV_anti]; omega) | exact cmpV_self _] at this
    exact this
  have Kxz : Hid (∀ w' : World, Below w.heap.size w w' → Calls Try.prog 9 #[.agg #[.int .i64 x.k, .int .i64 x.n, .string x.s, .slice A x.l.length c], .agg #[.int .i64 z.k, .int .i64 z.n, .string z.s, .slice C z.l.length e1]] w' fun e w'' => e = .returned (.int .i64 (-1)) ∧ Below w'.heap.size w' w'') := Lib.hid fun w' hb => by
    have := compare_any x z A C c e1 w.heap.size w.heap.size w' hn hp (hx.below hb) (hz.below hb) hb.size hb.size
    rw [show cmpV x z = -1 by first | assumption | (rw [cmpV_anti]; omega) | exact cmpV_self _] at this
    exact this
  have Ks : Hid (∀ w' : World, Below w.heap.size w w' → Calls Try.prog 10 #[.agg #[.int .i64 x.k, .int .i64 x.n, .string x.s, .slice A x.l.length c], .agg #[.int .i64 y.k, .int .i64 y.n, .string y.s, .slice B y.l.length d]] w' fun e w'' => e = .returned (.bool true) ∧ Below w'.heap.size w' w'') := Lib.hid fun w' hb => by
    have := same_any x y A B c d w.heap.size w.heap.size w' hn hm (hx.below hb) (hy.below hb) hb.size hb.size
    rw [cmpV_zero hpv] at this
    exact this
  clear hpv hqv hrv hn hm hp hx hy hz
  obtain ⟨W, hW⟩ : ∃ W, W = (((w.alloc (.cells #[.int .i64 x.k, .int .i64 x.n, .string x.s, .slice A x.l.length c] 24)).alloc (.cells #[.int .i64 y.k, .int .i64 y.n, .string y.s, .slice B y.l.length d] 24)).alloc (.cells #[.int .i64 z.k, .int .i64 z.n, .string z.s, .slice C z.l.length e1] 24)) := ⟨_, rfl⟩
  have hbW : Below w.heap.size w W := by rw [hW]; exact ((((Below.refl _ _).alloc (Nat.le_refl _) _).alloc (by simp) _).alloc (by simp; omega) _)
  have c0 : W.cell? ⟨w.heap.size, 0, none⟩ = some (.int .i64 x.k) := by rw [hW]; simp [go_sem]
  have c1 : W.cell? ⟨w.heap.size, 1, none⟩ = some (.int .i64 x.n) := by rw [hW]; simp [go_sem]
  have c2 : W.cell? ⟨w.heap.size, 2, none⟩ = some (.string x.s) := by rw [hW]; simp [go_sem]
  have c3 : W.cell? ⟨w.heap.size, 3, none⟩ = some (.slice A x.l.length c) := by rw [hW]; simp [go_sem]
  have c4 : W.cell? ⟨w.heap.size + 1, 0, none⟩ = some (.int .i64 y.k) := by rw [hW]; simp [go_sem]
  have c5 : W.cell? ⟨w.heap.size + 1, 1, none⟩ = some (.int .i64 y.n) := by rw [hW]; simp [go_sem]
  have c6 : W.cell? ⟨w.heap.size + 1, 2, none⟩ = some (.string y.s) := by rw [hW]; simp [go_sem]
  have c7 : W.cell? ⟨w.heap.size + 1, 3, none⟩ = some (.slice B y.l.length d) := by rw [hW]; simp [go_sem]
  have c8 : W.cell? ⟨w.heap.size + 1 + 1, 0, none⟩ = some (.int .i64 z.k) := by rw [hW]; simp [go_sem]
  have c9 : W.cell? ⟨w.heap.size + 1 + 1, 1, none⟩ = some (.int .i64 z.n) := by rw [hW]; simp [go_sem]
  have c10 : W.cell? ⟨w.heap.size + 1 + 1, 2, none⟩ = some (.string z.s) := by rw [hW]; simp [go_sem]
  have c11 : W.cell? ⟨w.heap.size + 1 + 1, 3, none⟩ = some (.slice C z.l.length e1) := by rw [hW]; simp [go_sem]
  have r0 := Later.cell c0
  have r1 := Later.cell c1
  have r2 := Later.cell c2
  have r3 := Later.cell c3
  have r4 := Later.cell c4
  have r5 := Later.cell c5
  have r6 := Later.cell c6
  have r7 := Later.cell c7
  have r8 := Later.cell c8
  have r9 := Later.cell c9
  have r10 := Later.cell c10
  have r11 := Later.cell c11
  have HW := Lib.hid hW
  clear hW
  go_enter Try.func3, Try.ntmps3
  go_wp2_with fail
  rw [← HW.out]
  clear HW
  refine wp_region_later (by kernel_rfl) (by kernel_rfl) ?_
  repeat (go_big_quiet_step (first | with_reducible exact Later.call (fun w' hb => Kxy.out w' (hbW.trans (hb.mono hbW.size))) _ | with_reducible exact Later.call (fun w' hb => Kyx.out w' (hbW.trans (hb.mono hbW.size))) _ | with_reducible exact Later.call (fun w' hb => Kxx.out w' (hbW.trans (hb.mono hbW.size))) _))
  refine wpQuiet_nil ?_
  intro _ hw'
  obtain ⟨⟨W1, hb1⟩, rfl⟩ := hw'
  replace c0 := Below.cell_of hb1 c0
  replace c1 := Below.cell_of hb1 c1
  replace c2 := Below.cell_of hb1 c2
  replace c3 := Below.cell_of hb1 c3
  replace c4 := Below.cell_of hb1 c4
  replace c5 := Below.cell_of hb1 c5
  replace c6 := Below.cell_of hb1 c6
  replace c7 := Below.cell_of hb1 c7
  replace c8 := Below.cell_of hb1 c8
  replace c9 := Below.cell_of hb1 c9
  replace c10 := Below.cell_of hb1 c10
  replace c11 := Below.cell_of hb1 c11
  clear r0 r1 r2 r3 r4 r5 r6 r7 r8 r9 r10 r11
  replace hbW := hbW.trans (hb1.mono hbW.size)
  clear hb1
  go_wp2_with fail
  refine (Kxy.out _ hbW).mono ?_
  rintro e W2 ⟨rfl, hb1⟩
  replace c0 := Below.cell_of hb1 c0
  replace c1 := Below.cell_of hb1 c1
  replace c2 := Below.cell_of hb1 c2
  replace c3 := Below.cell_of hb1 c3
  replace c4 := Below.cell_of hb1 c4
  replace c5 := Below.cell_of hb1 c5
  replace c6 := Below.cell_of hb1 c6
  replace c7 := Below.cell_of hb1 c7
  replace c8 := Below.cell_of hb1 c8
  replace c9 := Below.cell_of hb1 c9
  replace c10 := Below.cell_of hb1 c10
  replace c11 := Below.cell_of hb1 c11
  replace hbW := hbW.trans (hb1.mono hbW.size)
  clear hb1
  go_wp2_with fail
  refine (Ks.out _ hbW).mono ?_
  rintro e W3 ⟨rfl, hb1⟩
  replace c0 := Below.cell_of hb1 c0
  replace c1 := Below.cell_of hb1 c1
  replace c2 := Below.cell_of hb1 c2
  replace c3 := Below.cell_of hb1 c3
  replace c4 := Below.cell_of hb1 c4
  replace c5 := Below.cell_of hb1 c5
  replace c6 := Below.cell_of hb1 c6
  replace c7 := Below.cell_of hb1 c7
  replace c8 := Below.cell_of hb1 c8
  replace c9 := Below.cell_of hb1 c9
  replace c10 := Below.cell_of hb1 c10
  replace c11 := Below.cell_of hb1 c11
  replace hbW := hbW.trans (hb1.mono hbW.size)
  clear hb1
  go_wp2_with fail
  refine (Kxy.out _ hbW).mono ?_
  rintro e W4 ⟨rfl, hb1⟩
  replace c0 := Below.cell_of hb1 c0
  replace c1 := Below.cell_of hb1 c1
  replace c2 := Below.cell_of hb1 c2
  replace c3 := Below.cell_of hb1 c3
  replace c4 := Below.cell_of hb1 c4
  replace c5 := Below.cell_of hb1 c5
  replace c6 := Below.cell_of hb1 c6
  replace c7 := Below.cell_of hb1 c7
  replace c8 := Below.cell_of hb1 c8
  replace c9 := Below.cell_of hb1 c9
  replace c10 := Below.cell_of hb1 c10
  replace c11 := Below.cell_of hb1 c11
  replace hbW := hbW.trans (hb1.mono hbW.size)
  clear hb1
  go_wp2_with fail
  refine (Kyz.out _ hbW).mono ?_
  rintro e W5 ⟨rfl, hb1⟩
  replace c0 := Below.cell_of hb1 c0
  replace c1 := Below.cell_of hb1 c1
  replace c2 := Below.cell_of hb1 c2
  replace c3 := Below.cell_of hb1 c3
  replace c4 := Below.cell_of hb1 c4
  replace c5 := Below.cell_of hb1 c5
  replace c6 := Below.cell_of hb1 c6
  replace c7 := Below.cell_of hb1 c7
  replace c8 := Below.cell_of hb1 c8
  replace c9 := Below.cell_of hb1 c9
  replace c10 := Below.cell_of hb1 c10
  replace c11 := Below.cell_of hb1 c11
  replace hbW := hbW.trans (hb1.mono hbW.size)
  clear hb1
  go_wp2_with fail
  refine (Kxz.out _ hbW).mono ?_
  rintro e W6 ⟨rfl, hb1⟩
  replace c0 := Below.cell_of hb1 c0
  replace c1 := Below.cell_of hb1 c1
  replace c2 := Below.cell_of hb1 c2
  replace c3 := Below.cell_of hb1 c3
  replace c4 := Below.cell_of hb1 c4
  replace c5 := Below.cell_of hb1 c5
  replace c6 := Below.cell_of hb1 c6
  replace c7 := Below.cell_of hb1 c7
  replace c8 := Below.cell_of hb1 c8
  replace c9 := Below.cell_of hb1 c9
  replace c10 := Below.cell_of hb1 c10
  replace c11 := Below.cell_of hb1 c11
  replace hbW := hbW.trans (hb1.mono hbW.size)
  clear hb1
  go_wp2_with fail
  go_ret
  exact ⟨ret_bool (by first | rfl | decide), hbW⟩

set_option maxHeartbeats 1000000 in
theorem total_0_q1 (x y z : Val) (A B C : Option Addr) (c d e1 : Nat) (w : World) (hn : x.l.length ≤ maxLen) (hm : y.l.length ≤ maxLen) (hp : z.l.length ≤ maxLen)
    (hx : Reads w w.heap.size 1 A x.l.length (numV .i64 x.l)) (hy : Reads w w.heap.size 1 B y.l.length (numV .i64 y.l)) (hz : Reads w w.heap.size 1 C z.l.length (numV .i64 z.l)) (hpv : cmpV x y = -1) (hqv : cmpV y z = 1) :
    Calls Try.prog 3 #[.agg #[.int .i64 x.k, .int .i64 x.n, .string x.s, .slice A x.l.length c], .agg #[.int .i64 y.k, .int .i64 y.n, .string y.s, .slice B y.l.length d], .agg #[.int .i64 z.k, .int .i64 z.n, .string z.s, .slice C z.l.length e1]] w
      fun e w' => e = .returned (.bool true) ∧ Below w.heap.size w w' := by
  have Kxy : Hid (∀ w' : World, Below w.heap.size w w' → Calls Try.prog 9 #[.agg #[.int .i64 x.k, .int .i64 x.n, .string x.s, .slice A x.l.length c], .agg #[.int .i64 y.k, .int .i64 y.n, .string y.s, .slice B y.l.length d]] w' fun e w'' => e = .returned (.int .i64 (-1)) ∧ Below w'.heap.size w' w'') := Lib.hid fun w' hb => by
    have := compare_any x y A B c d w.heap.size w.heap.size w' hn hm (hx.below hb) (hy.below hb) hb.size hb.size
    rw [show cmpV x y = -1 by first | assumption | (rw [cmpV_anti]; omega) | exact cmpV_self _] at this
    exact this
  have Kyx : Hid (∀ w' : World, Below w.heap.size w w' → Calls Try.prog 9 #[.agg #[.int .i64 y.k, .int .i64 y.n, .string y.s, .slice B y.l.length d], .agg #[.int .i64 x.k, .int .i64 x.n, .string x.s, .slice A x.l.length c]] w' fun e w'' => e = .returned (.int .i64 (1)) ∧ Below w'.heap.size w' w'') := Lib.hid fun w' hb => by
    have := compare_any y x B A d c w.heap.size w.heap.size w' hm hn (hy.below hb) (hx.below hb) hb.size hb.size
    rw [show cmpV y x = 1 by first | assumption | (rw [cmpV_anti]; omega) | exact cmpV_self _] at this
    exact this
  have Kxx : Hid (∀ w' : World, Below w.heap.size w w' → Calls Try.prog 9 #[.agg #[.int .i64 x.k, .int .i64 x.n, .string x.s, .slice A x.l.length c], .agg #[.int .i64 x.k, .int .i64 x.n, .string x.s, .slice A x.l.length c]] w' fun e w'' => e = .returned (.int .i64 (0)) ∧ Below w'.heap.size w' w'') := Lib.hid fun w' hb => by
    have := compare_any x x A A c c w.heap.size w.heap.size w' hn hn (hx.below hb) (hx.below hb) hb.size hb.size
    rw [show cmpV x x = 0 by first | assumption | (rw [cmpV_anti]; omega) | exact cmpV_self _] at this
    exact this
  have Kyz : Hid (∀ w' : World, Below w.heap.size w w' → Calls Try.prog 9 #[.agg #[.int .i64 y.k, .int .i64 y.n, .string y.s, .slice B y.l.length d], .agg #[.int .i64 z.k, .int .i64 z.n, .string z.s, .slice C z.l.length e1]] w' fun e w'' => e = .returned (.int .i64 (1)) ∧ Below w'.heap.size w' w'') := Lib.hid fun w' hb => by
    have := compare_any y z B C d e1 w.heap.size w.heap.size w' hm hp (hy.below hb) (hz.below hb) hb.size hb.size
    rw [show cmpV y z = 1 by first | assumption | (rw [cmpV_anti]; omega) | exact cmpV_self _] at this
    exact this
  clear hpv hqv hn hm hp hx hy hz
  obtain ⟨W, hW⟩ : ∃ W, W = (((w.alloc (.cells #[.int .i64 x.k, .int .i64 x.n, .string x.s, .slice A x.l.length c] 24)).alloc (.cells #[.int .i64 y.k, .int .i64 y.n, .string y.s, .slice B y.l.length d] 24)).alloc (.cells #[.int .i64 z.k, .int .i64 z.n, .string z.s, .slice C z.l.length e1] 24)) := ⟨_, rfl⟩
  have hbW : Below w.heap.size w W := by rw [hW]; exact ((((Below.refl _ _).alloc (Nat.le_refl _) _).alloc (by simp) _).alloc (by simp; omega) _)
  have c0 : W.cell? ⟨w.heap.size, 0, none⟩ = some (.int .i64 x.k) := by rw [hW]; simp [go_sem]
  have c1 : W.cell? ⟨w.heap.size, 1, none⟩ = some (.int .i64 x.n) := by rw [hW]; simp [go_sem]
  have c2 : W.cell? ⟨w.heap.size, 2, none⟩ = some (.string x.s) := by rw [hW]; simp [go_sem]
  have c3 : W.cell? ⟨w.heap.size, 3, none⟩ = some (.slice A x.l.length c) := by rw [hW]; simp [go_sem]
  have c4 : W.cell? ⟨w.heap.size + 1, 0, none⟩ = some (.int .i64 y.k) := by rw [hW]; simp [go_sem]
  have c5 : W.cell? ⟨w.heap.size + 1, 1, none⟩ = some (.int .i64 y.n) := by rw [hW]; simp [go_sem]
  have c6 : W.cell? ⟨w.heap.size + 1, 2, none⟩ = some (.string y.s) := by rw [hW]; simp [go_sem]
  have c7 : W.cell? ⟨w.heap.size + 1, 3, none⟩ = some (.slice B y.l.length d) := by rw [hW]; simp [go_sem]
  have c8 : W.cell? ⟨w.heap.size + 1 + 1, 0, none⟩ = some (.int .i64 z.k) := by rw [hW]; simp [go_sem]
  have c9 : W.cell? ⟨w.heap.size + 1 + 1, 1, none⟩ = some (.int .i64 z.n) := by rw [hW]; simp [go_sem]
  have c10 : W.cell? ⟨w.heap.size + 1 + 1, 2, none⟩ = some (.string z.s) := by rw [hW]; simp [go_sem]
  have c11 : W.cell? ⟨w.heap.size + 1 + 1, 3, none⟩ = some (.slice C z.l.length e1) := by rw [hW]; simp [go_sem]
  have r0 := Later.cell c0
  have r1 := Later.cell c1
  have r2 := Later.cell c2
  have r3 := Later.cell c3
  have r4 := Later.cell c4
  have r5 := Later.cell c5
  have r6 := Later.cell c6
  have r7 := Later.cell c7
  have r8 := Later.cell c8
  have r9 := Later.cell c9
  have r10 := Later.cell c10
  have r11 := Later.cell c11
  have HW := Lib.hid hW
  clear hW
  go_enter Try.func3, Try.ntmps3
  go_wp2_with fail
  rw [← HW.out]
  clear HW
  refine wp_region_later (by kernel_rfl) (by kernel_rfl) ?_
  repeat (go_big_quiet_step (first | with_reducible exact Later.call (fun w' hb => Kxy.out w' (hbW.trans (hb.mono hbW.size))) _ | with_reducible exact Later.call (fun w' hb => Kyx.out w' (hbW.trans (hb.mono hbW.size))) _ | with_reducible exact Later.call (fun w' hb => Kxx.out w' (hbW.trans (hb.mono hbW.size))) _))
  refine wpQuiet_nil ?_
  intro _ hw'
  obtain ⟨⟨W1, hb1⟩, rfl⟩ := hw'
  replace c0 := Below.cell_of hb1 c0
  replace c1 := Below.cell_of hb1 c1
  replace c2 := Below.cell_of hb1 c2
  replace c3 := Below.cell_of hb1 c3
  replace c4 := Below.cell_of hb1 c4
  replace c5 := Below.cell_of hb1 c5
  replace c6 := Below.cell_of hb1 c6
  replace c7 := Below.cell_of hb1 c7
  replace c8 := Below.cell_of hb1 c8
  replace c9 := Below.cell_of hb1 c9
  replace c10 := Below.cell_of hb1 c10
  replace c11 := Below.cell_of hb1 c11
  clear r0 r1 r2 r3 r4 r5 r6 r7 r8 r9 r10 r11
  replace hbW := hbW.trans (hb1.mono hbW.size)
  clear hb1
  go_wp2_with fail
  refine (Kxy.out _ hbW).mono ?_
  rintro e W2 ⟨rfl, hb1⟩
  replace c0 := Below.cell_of hb1 c0
  replace c1 := Below.cell_of hb1 c1
  replace c2 := Below.cell_of hb1 c2
  replace c3 := Below.cell_of hb1 c3
  replace c4 := Below.cell_of hb1 c4
  replace c5 := Below.cell_of hb1 c5
  replace c6 := Below.cell_of hb1 c6
  replace c7 := Below.cell_of hb1 c7
  replace c8 := Below.cell_of hb1 c8
  replace c9 := Below.cell_of hb1 c9
  replace c10 := Below.cell_of hb1 c10
  replace c11 := Below.cell_of hb1 c11
  replace hbW := hbW.trans (hb1.mono hbW.size)
  clear hb1
  go_wp2_with fail
  refine (Kxy.out _ hbW).mono ?_
  rintro e W3 ⟨rfl, hb1⟩
  replace c0 := Below.cell_of hb1 c0
  replace c1 := Below.cell_of hb1 c1
  replace c2 := Below.cell_of hb1 c2
  replace c3 := Below.cell_of hb1 c3
  replace c4 := Below.cell_of hb1 c4
  replace c5 := Below.cell_of hb1 c5
  replace c6 := Below.cell_of hb1 c6
  replace c7 := Below.cell_of hb1 c7
  replace c8 := Below.cell_of hb1 c8
  replace c9 := Below.cell_of hb1 c9
  replace c10 := Below.cell_of hb1 c10
  replace c11 := Below.cell_of hb1 c11
  replace hbW := hbW.trans (hb1.mono hbW.size)
  clear hb1
  go_wp2_with fail
  refine (Kyz.out _ hbW).mono ?_
  rintro e W4 ⟨rfl, hb1⟩
  replace c0 := Below.cell_of hb1 c0
  replace c1 := Below.cell_of hb1 c1
  replace c2 := Below.cell_of hb1 c2
  replace c3 := Below.cell_of hb1 c3
  replace c4 := Below.cell_of hb1 c4
  replace c5 := Below.cell_of hb1 c5
  replace c6 := Below.cell_of hb1 c6
  replace c7 := Below.cell_of hb1 c7
  replace c8 := Below.cell_of hb1 c8
  replace c9 := Below.cell_of hb1 c9
  replace c10 := Below.cell_of hb1 c10
  replace c11 := Below.cell_of hb1 c11
  replace hbW := hbW.trans (hb1.mono hbW.size)
  clear hb1
  go_wp2_with fail
  go_ret
  exact ⟨ret_bool (by first | rfl | decide), hbW⟩

set_option maxHeartbeats 1000000 in
theorem total_0_1_1 (x y z : Val) (A B C : Option Addr) (c d e1 : Nat) (w : World) (hn : x.l.length ≤ maxLen) (hm : y.l.length ≤ maxLen) (hp : z.l.length ≤ maxLen)
    (hx : Reads w w.heap.size 1 A x.l.length (numV .i64 x.l)) (hy : Reads w w.heap.size 1 B y.l.length (numV .i64 y.l)) (hz : Reads w w.heap.size 1 C z.l.length (numV .i64 z.l)) (hpv : cmpV x y = -1) (hqv : cmpV y z = 0) (hrv : cmpV x z = 0) :
    Calls Try.prog 3 #[.agg #[.int .i64 x.k, .int .i64 x.n, .string x.s, .slice A x.l.length c], .agg #[.int .i64 y.k, .int .i64 y.n, .string y.s, .slice B y.l.length d], .agg #[.int .i64 z.k, .int .i64 z.n, .string z.s, .slice C z.l.length e1]] w
      fun e w' => e = .returned (.bool true) ∧ Below w.heap.size w w' := by
  have Kxy : Hid (∀ w' : World, Below w.heap.size w w' → Calls Try.prog 9 #[.agg #[.int .i64 x.k, .int .i64 x.n, .string x.s, .slice A x.l.length c], .agg #[.int .i64 y.k, .int .i64 y.n, .string y.s, .slice B y.l.length d]] w' fun e w'' => e = .returned (.int .i64 (-1)) ∧ Below w'.heap.size w' w'') := Lib.hid fun w' hb => by
    have := compare_any x y A B c d w.heap.size w.heap.size w' hn hm (hx.below hb) (hy.below hb) hb.size hb.size
    rw [show cmpV x y = -1 by first | assumption | (rw [cmpV_anti]; omega) | exact cmpV_self _] at this
    exact this
  have Kyx : Hid (∀ w' : World, Below w.heap.size w w' → Calls Try.prog 9 #[.agg #[.int .i64 y.k, .int .i64 y.n, .string y.s, .slice B y.l.length d], .agg #[.int .i64 x.k, .int .i64 x.n, .string x.s, .slice A x.l.length c]] w' fun e w'' => e = .returned (.int .i64 (1)) ∧ Below w'.heap.size w' w'') := Lib.hid fun w' hb => by
    have := compare_any y x B A d c w.heap.size w.heap.size w' hm hn (hy.below hb) (hx.below hb) hb.size hb.size
    rw [show cmpV y x = 1 by first | assumption | (rw [cmpV_anti]; omega) | exact cmpV_self _] at this
    exact this
  have Kxx : Hid (∀ w' : World, Below w.heap.size w w' → Calls Try.prog 9 #[.agg #[.int .i64 x.k, .int .i64 x.n, .string x.s, .slice A x.l.length c], .agg #[.int .i64 x.k, .int .i64 x.n, .string x.s, .slice A x.l.length c]] w' fun e w'' => e = .returned (.int .i64 (0)) ∧ Below w'.heap.size w' w'') := Lib.hid fun w' hb => by
    have := compare_any x x A A c c w.heap.size w.heap.size w' hn hn (hx.below hb) (hx.below hb) hb.size hb.size
    rw [show cmpV x x = 0 by first | assumption | (rw [cmpV_anti]; omega) | exact cmpV_self _] at this
    exact this
  have Kyz : Hid (∀ w' : World, Below w.heap.size w w' → Calls Try.prog 9 #[.agg #[.int .i64 y.k, .int .i64 y.n, .string y.s, .slice B y.l.length d], .agg #[.int .i64 z.k, .int .i64 z.n, .string z.s, .slice C z.l.length e1]] w' fun e w'' => e = .returned (.int .i64 (0)) ∧ Below w'.heap.size w' w'') := Lib.hid fun w' hb => by
    have := compare_any y z B C d e1 w.heap.size w.heap.size w' hm hp (hy.below hb) (hz.below hb) hb.size hb.size
    rw [show cmpV y z = 0 by first | assumption | (rw [cmpV_anti]; omega) | exact cmpV_self _] at this
    exact this
  have Kxz : Hid (∀ w' : World, Below w.heap.size w w' → Calls Try.prog 9 #[.agg #[.int .i64 x.k, .int .i64 x.n, .string x.s, .slice A x.l.length c], .agg #[.int .i64 z.k, .int .i64 z.n, .string z.s, .slice C z.l.length e1]] w' fun e w'' => e = .returned (.int .i64 (0)) ∧ Below w'.heap.size w' w'') := Lib.hid fun w' hb => by
    have := compare_any x z A C c e1 w.heap.size w.heap.size w' hn hp (hx.below hb) (hz.below hb) hb.size hb.size
    rw [show cmpV x z = 0 by first | assumption | (rw [cmpV_anti]; omega) | exact cmpV_self _] at this
    exact this
  clear hpv hqv hrv hn hm hp hx hy hz
  obtain ⟨W, hW⟩ : ∃ W, W = (((w.alloc (.cells #[.int .i64 x.k, .int .i64 x.n, .string x.s, .slice A x.l.length c] 24)).alloc (.cells #[.int .i64 y.k, .int .i64 y.n, .string y.s, .slice B y.l.length d] 24)).alloc (.cells #[.int .i64 z.k, .int .i64 z.n, .string z.s, .slice C z.l.length e1] 24)) := ⟨_, rfl⟩
  have hbW : Below w.heap.size w W := by rw [hW]; exact ((((Below.refl _ _).alloc (Nat.le_refl _) _).alloc (by simp) _).alloc (by simp; omega) _)
  have c0 : W.cell? ⟨w.heap.size, 0, none⟩ = some (.int .i64 x.k) := by rw [hW]; simp [go_sem]
  have c1 : W.cell? ⟨w.heap.size, 1, none⟩ = some (.int .i64 x.n) := by rw [hW]; simp [go_sem]
  have c2 : W.cell? ⟨w.heap.size, 2, none⟩ = some (.string x.s) := by rw [hW]; simp [go_sem]
  have c3 : W.cell? ⟨w.heap.size, 3, none⟩ = some (.slice A x.l.length c) := by rw [hW]; simp [go_sem]
  have c4 : W.cell? ⟨w.heap.size + 1, 0, none⟩ = some (.int .i64 y.k) := by rw [hW]; simp [go_sem]
  have c5 : W.cell? ⟨w.heap.size + 1, 1, none⟩ = some (.int .i64 y.n) := by rw [hW]; simp [go_sem]
  have c6 : W.cell? ⟨w.heap.size + 1, 2, none⟩ = some (.string y.s) := by rw [hW]; simp [go_sem]
  have c7 : W.cell? ⟨w.heap.size + 1, 3, none⟩ = some (.slice B y.l.length d) := by rw [hW]; simp [go_sem]
  have c8 : W.cell? ⟨w.heap.size + 1 + 1, 0, none⟩ = some (.int .i64 z.k) := by rw [hW]; simp [go_sem]
  have c9 : W.cell? ⟨w.heap.size + 1 + 1, 1, none⟩ = some (.int .i64 z.n) := by rw [hW]; simp [go_sem]
  have c10 : W.cell? ⟨w.heap.size + 1 + 1, 2, none⟩ = some (.string z.s) := by rw [hW]; simp [go_sem]
  have c11 : W.cell? ⟨w.heap.size + 1 + 1, 3, none⟩ = some (.slice C z.l.length e1) := by rw [hW]; simp [go_sem]
  have r0 := Later.cell c0
  have r1 := Later.cell c1
  have r2 := Later.cell c2
  have r3 := Later.cell c3
  have r4 := Later.cell c4
  have r5 := Later.cell c5
  have r6 := Later.cell c6
  have r7 := Later.cell c7
  have r8 := Later.cell c8
  have r9 := Later.cell c9
  have r10 := Later.cell c10
  have r11 := Later.cell c11
  have HW := Lib.hid hW
  clear hW
  go_enter Try.func3, Try.ntmps3
  go_wp2_with fail
  rw [← HW.out]
  clear HW
  refine wp_region_later (by kernel_rfl) (by kernel_rfl) ?_
  repeat (go_big_quiet_step (first | with_reducible exact Later.call (fun w' hb => Kxy.out w' (hbW.trans (hb.mono hbW.size))) _ | with_reducible exact Later.call (fun w' hb => Kyx.out w' (hbW.trans (hb.mono hbW.size))) _ | with_reducible exact Later.call (fun w' hb => Kxx.out w' (hbW.trans (hb.mono hbW.size))) _))
  refine wpQuiet_nil ?_
  intro _ hw'
  obtain ⟨⟨W1, hb1⟩, rfl⟩ := hw'
  replace c0 := Below.cell_of hb1 c0
  replace c1 := Below.cell_of hb1 c1
  replace c2 := Below.cell_of hb1 c2
  replace c3 := Below.cell_of hb1 c3
  replace c4 := Below.cell_of hb1 c4
  replace c5 := Below.cell_of hb1 c5
  replace c6 := Below.cell_of hb1 c6
  replace c7 := Below.cell_of hb1 c7
  replace c8 := Below.cell_of hb1 c8
  replace c9 := Below.cell_of hb1 c9
  replace c10 := Below.cell_of hb1 c10
  replace c11 := Below.cell_of hb1 c11
  clear r0 r1 r2 r3 r4 r5 r6 r7 r8 r9 r10 r11
  replace hbW := hbW.trans (hb1.mono hbW.size)
  clear hb1
  go_wp2_with fail
  refine (Kxy.out _ hbW).mono ?_
  rintro e W2 ⟨rfl, hb1⟩
  replace c0 := Below.cell_of hb1 c0
  replace c1 := Below.cell_of hb1 c1
  replace c2 := Below.cell_of hb1 c2
  replace c3 := Below.cell_of hb1 c3
  replace c4 := Below.cell_of hb1 c4
  replace c5 := Below.cell_of hb1 c5
  replace c6 := Below.cell_of hb1 c6
  replace c7 := Below.cell_of hb1 c7
  replace c8 := Below.cell_of hb1 c8
  replace c9 := Below.cell_of hb1 c9
  replace c10 := Below.cell_of hb1 c10
  replace c11 := Below.cell_of hb1 c11
  replace hbW := hbW.trans (hb1.mono hbW.size)
  clear hb1
  go_wp2_with fail
  refine (Kxy.out _ hbW).mono ?_
  rintro e W3 ⟨rfl, hb1⟩
  replace c0 := Below.cell_of hb1 c0
  replace c1 := Below.cell_of hb1 c1
  replace c2 := Below.cell_of hb1 c2
  replace c3 := Below.cell_of hb1 c3
  replace c4 := Below.cell_of hb1 c4
  replace c5 := Below.cell_of hb1 c5
  replace c6 := Below.cell_of hb1 c6
  replace c7 := Below.cell_of hb1 c7
  replace c8 := Below.cell_of hb1 c8
  replace c9 := Below.cell_of hb1 c9
  replace c10 := Below.cell_of hb1 c10
  replace c11 := Below.cell_of hb1 c11
  replace hbW := hbW.trans (hb1.mono hbW.size)
  clear hb1
  go_wp2_with fail
  refine (Kyz.out _ hbW).mono ?_
  rintro e W4 ⟨rfl, hb1⟩
  replace c0 := Below.cell_of hb1 c0
  replace c1 := Below.cell_of hb1 c1
  replace c2 := Below.cell_of hb1 c2
  replace c3 := Below.cell_of hb1 c3
  replace c4 := Below.cell_of hb1 c4
  replace c5 := Below.cell_of hb1 c5
  replace c6 := Below.cell_of hb1 c6
  replace c7 := Below.cell_of hb1 c7
  replace c8 := Below.cell_of hb1 c8
  replace c9 := Below.cell_of hb1 c9
  replace c10 := Below.cell_of hb1 c10
  replace c11 := Below.cell_of hb1 c11
  replace hbW := hbW.trans (hb1.mono hbW.size)
  clear hb1
  go_wp2_with fail
  refine (Kxz.out _ hbW).mono ?_
  rintro e W5 ⟨rfl, hb1⟩
  replace c0 := Below.cell_of hb1 c0
  replace c1 := Below.cell_of hb1 c1
  replace c2 := Below.cell_of hb1 c2
  replace c3 := Below.cell_of hb1 c3
  replace c4 := Below.cell_of hb1 c4
  replace c5 := Below.cell_of hb1 c5
  replace c6 := Below.cell_of hb1 c6
  replace c7 := Below.cell_of hb1 c7
  replace c8 := Below.cell_of hb1 c8
  replace c9 := Below.cell_of hb1 c9
  replace c10 := Below.cell_of hb1 c10
  replace c11 := Below.cell_of hb1 c11
  replace hbW := hbW.trans (hb1.mono hbW.size)
  clear hb1
  go_wp2_with fail
  go_ret
  exact ⟨ret_bool (by first | rfl | decide), hbW⟩

set_option maxHeartbeats 1000000 in
theorem total_0_1_0 (x y z : Val) (A B C : Option Addr) (c d e1 : Nat) (w : World) (hn : x.l.length ≤ maxLen) (hm : y.l.length ≤ maxLen) (hp : z.l.length ≤ maxLen)
    (hx : Reads w w.heap.size 1 A x.l.length (numV .i64 x.l)) (hy : Reads w w.heap.size 1 B y.l.length (numV .i64 y.l)) (hz : Reads w w.heap.size 1 C z.l.length (numV .i64 z.l)) (hpv : cmpV x y = -1) (hqv : cmpV y z = 0) (hrv : cmpV x z = -1) :
    Calls Try.prog 3 #[.agg #[.int .i64 x.k, .int .i64 x.n, .string x.s, .slice A x.l.length c], .agg #[.int .i64 y.k, .int .i64 y.n, .string y.s, .slice B y.l.length d], .agg #[.int .i64 z.k, .int .i64 z.n, .string z.s, .slice C z.l.length e1]] w
      fun e w' => e = .returned (.bool true) ∧ Below w.heap.size w w' := by
  have Kxy : Hid (∀ w' : World, Below w.heap.size w w' → Calls Try.prog 9 #[.agg #[.int .i64 x.k, .int .i64 x.n, .string x.s, .slice A x.l.length c], .agg #[.int .i64 y.k, .int .i64 y.n, .string y.s, .slice B y.l.length d]] w' fun e w'' => e = .returned (.int .i64 (-1)) ∧ Below w'.heap.size w' w'') := Lib.hid fun w' hb => by
    have := compare_any x y A B c d w.heap.size w.heap.size w' hn hm (hx.below hb) (hy.below hb) hb.size hb.size
    rw [show cmpV x y = -1 by first | assumption | (rw [cmpV_anti]; omega) | exact cmpV_self _] at this
    exact this
  have Kyx : Hid (∀ w' : World, Below w.heap.size w w' → Calls Try.prog 9 #[.agg #[.int .i64 y.k, .int .i64 y.n, .string y.s, .slice B y.l.length d], .agg #[.int .i64 x.k, .int .i64 x.n, .string x.s, .slice A x.l.length c]] w' fun e w'' => e = .returned (.int .i64 (1)) ∧ Below w'.heap.size w' w'') := Lib.hid fun w' hb => by
    have := compare_any y x B A d c w.heap.size w.heap.size w' hm hn (hy.below hb) (hx.below hb) hb.size hb.size
    rw [show cmpV y x = 1 by first | assumption | (rw [cmpV_anti]; omega) | exact cmpV_self _] at this
    exact this
  have Kxx : Hid (∀ w' : World, Below w.heap.size w w' → Calls Try.prog 9 #[.agg #[.int .i64 x.k, .int .i64 x.n, .string x.s, .slice A x.l.length c], .agg #[.int .i64 x.k, .int .i64 x.n, .string x.s, .slice A x.l.length c]] w' fun e w'' => e = .returned (.int .i64 (0)) ∧ Below w'.heap.size w' w'') := Lib.hid fun w' hb => by
    have := compare_any x x A A c c w.heap.size w.heap.size w' hn hn (hx.below hb) (hx.below hb) hb.size hb.size
    rw [show cmpV x x = 0 by first | assumption | (rw [cmpV_anti]; omega) | exact cmpV_self _] at this
    exact this
  have Kyz : Hid (∀ w' : World, Below w.heap.size w w' → Calls Try.prog 9 #[.agg #[.int .i64 y.k, .int .i64 y.n, .string y.s, .slice B y.l.length d], .agg #[.int .i64 z.k, .int .i64 z.n, .string z.s, .slice C z.l.length e1]] w' fun e w'' => e = .returned (.int .i64 (0)) ∧ Below w'.heap.size w' w'') := Lib.hid fun w' hb => by
    have := compare_any y z B C d e1 w.heap.size w.heap.size w' hm hp (hy.below hb) (hz.below hb) hb.size hb.size
    rw [show cmpV y z = 0 by first | assumption | (rw [cmpV_anti]; omega) | exact cmpV_self _] at this
    exact this
  have Kxz : Hid (∀ w' : World, Below w.heap.size w w' → Calls Try.prog 9 #[.agg #[.int .i64 x.k, .int .i64 x.n, .string x.s, .slice A x.l.length c], .agg #[.int .i64 z.k, .int .i64 z.n, .string z.s, .slice C z.l.length e1]] w' fun e w'' => e = .returned (.int .i64 (-1)) ∧ Below w'.heap.size w' w'') := Lib.hid fun w' hb => by
    have := compare_any x z A C c e1 w.heap.size w.heap.size w' hn hp (hx.below hb) (hz.below hb) hb.size hb.size
    rw [show cmpV x z = -1 by first | assumption | (rw [cmpV_anti]; omega) | exact cmpV_self _] at this
    exact this
  clear hpv hqv hrv hn hm hp hx hy hz
  obtain ⟨W, hW⟩ : ∃ W, W = (((w.alloc (.cells #[.int .i64 x.k, .int .i64 x.n, .string x.s, .slice A x.l.length c] 24)).alloc (.cells #[.int .i64 y.k, .int .i64 y.n, .string y.s, .slice B y.l.length d] 24)).alloc (.cells #[.int .i64 z.k, .int .i64 z.n, .string z.s, .slice C z.l.length e1] 24)) := ⟨_, rfl⟩
  have hbW : Below w.heap.size w W := by rw [hW]; exact ((((Below.refl _ _).alloc (Nat.le_refl _) _).alloc (by simp) _).alloc (by simp; omega) _)
  have c0 : W.cell? ⟨w.heap.size, 0, none⟩ = some (.int .i64 x.k) := by rw [hW]; simp [go_sem]
  have c1 : W.cell? ⟨w.heap.size, 1, none⟩ = some (.int .i64 x.n) := by rw [hW]; simp [go_sem]
  have c2 : W.cell? ⟨w.heap.size, 2, none⟩ = some (.string x.s) := by rw [hW]; simp [go_sem]
  have c3 : W.cell? ⟨w.heap.size, 3, none⟩ = some (.slice A x.l.length c) := by rw [hW]; simp [go_sem]
  have c4 : W.cell? ⟨w.heap.size + 1, 0, none⟩ = some (.int .i64 y.k) := by rw [hW]; simp [go_sem]
  have c5 : W.cell? ⟨w.heap.size + 1, 1, none⟩ = some (.int .i64 y.n) := by rw [hW]; simp [go_sem]
  have c6 : W.cell? ⟨w.heap.size + 1, 2, none⟩ = some (.string y.s) := by rw [hW]; simp [go_sem]
  have c7 : W.cell? ⟨w.heap.size + 1, 3, none⟩ = some (.slice B y.l.length d) := by rw [hW]; simp [go_sem]
  have c8 : W.cell? ⟨w.heap.size + 1 + 1, 0, none⟩ = some (.int .i64 z.k) := by rw [hW]; simp [go_sem]
  have c9 : W.cell? ⟨w.heap.size + 1 + 1, 1, none⟩ = some (.int .i64 z.n) := by rw [hW]; simp [go_sem]
  have c10 : W.cell? ⟨w.heap.size + 1 + 1, 2, none⟩ = some (.string z.s) := by rw [hW]; simp [go_sem]
  have c11 : W.cell? ⟨w.heap.size + 1 + 1, 3, none⟩ = some (.slice C z.l.length e1) := by rw [hW]; simp [go_sem]
  have r0 := Later.cell c0
  have r1 := Later.cell c1
  have r2 := Later.cell c2
  have r3 := Later.cell c3
  have r4 := Later.cell c4
  have r5 := Later.cell c5
  have r6 := Later.cell c6
  have r7 := Later.cell c7
  have r8 := Later.cell c8
  have r9 := Later.cell c9
  have r10 := Later.cell c10
  have r11 := Later.cell c11
  have HW := Lib.hid hW
  clear hW
  go_enter Try.func3, Try.ntmps3
  go_wp2_with fail
  rw [← HW.out]
  clear HW
  refine wp_region_later (by kernel_rfl) (by kernel_rfl) ?_
  repeat (go_big_quiet_step (first | with_reducible exact Later.call (fun w' hb => Kxy.out w' (hbW.trans (hb.mono hbW.size))) _ | with_reducible exact Later.call (fun w' hb => Kyx.out w' (hbW.trans (hb.mono hbW.size))) _ | with_reducible exact Later.call (fun w' hb => Kxx.out w' (hbW.trans (hb.mono hbW.size))) _))
  refine wpQuiet_nil ?_
  intro _ hw'
  obtain ⟨⟨W1, hb1⟩, rfl⟩ := hw'
  replace c0 := Below.cell_of hb1 c0
  replace c1 := Below.cell_of hb1 c1
  replace c2 := Below.cell_of hb1 c2
  replace c3 := Below.cell_of hb1 c3
  replace c4 := Below.cell_of hb1 c4
  replace c5 := Below.cell_of hb1 c5
  replace c6 := Below.cell_of hb1 c6
  replace c7 := Below.cell_of hb1 c7
  replace c8 := Below.cell_of hb1 c8
  replace c9 := Below.cell_of hb1 c9
  replace c10 := Below.cell_of hb1 c10
  replace c11 := Below.cell_of hb1 c11
  clear r0 r1 r2 r3 r4 r5 r6 r7 r8 r9 r10 r11
  replace hbW := hbW.trans (hb1.mono hbW.size)
  clear hb1
  go_wp2_with fail
  refine (Kxy.out _ hbW).mono ?_
  rintro e W2 ⟨rfl, hb1⟩
  replace c0 := Below.cell_of hb1 c0
  replace c1 := Below.cell_of hb1 c1
  replace c2 := Below.cell_of hb1 c2
  replace c3 := Below.cell_of hb1 c3
  replace c4 := Below.cell_of hb1 c4
  replace c5 := Below.cell_of hb1 c5
  replace c6 := Below.cell_of hb1 c6
  replace c7 := Below.cell_of hb1 c7
  replace c8 := Below.cell_of hb1 c8
  replace c9 := Below.cell_of hb1 c9
  replace c10 := Below.cell_of hb1 c10
  replace c11 := Below.cell_of hb1 c11
  replace hbW := hbW.trans (hb1.mono hbW.size)
  clear hb1
  go_wp2_with fail
  refine (Kxy.out _ hbW).mono ?_
  rintro e W3 ⟨rfl, hb1⟩
  replace c0 := Below.cell_of hb1 c0
  replace c1 := Below.cell_of hb1 c1
  replace c2 := Below.cell_of hb1 c2
  replace c3 := Below.cell_of hb1 c3
  replace c4 := Below.cell_of hb1 c4
  replace c5 := Below.cell_of hb1 c5
  replace c6 := Below.cell_of hb1 c6
  replace c7 := Below.cell_of hb1 c7
  replace c8 := Below.cell_of hb1 c8
  replace c9 := Below.cell_of hb1 c9
  replace c10 := Below.cell_of hb1 c10
  replace c11 := Below.cell_of hb1 c11
  replace hbW := hbW.trans (hb1.mono hbW.size)
  clear hb1
  go_wp2_with fail
  refine (Kyz.out _ hbW).mono ?_
  rintro e W4 ⟨rfl, hb1⟩
  replace c0 := Below.cell_of hb1 c0
  replace c1 := Below.cell_of hb1 c1
  replace c2 := Below.cell_of hb1 c2
  replace c3 := Below.cell_of hb1 c3
  replace c4 := Below.cell_of hb1 c4
  replace c5 := Below.cell_of hb1 c5
  replace c6 := Below.cell_of hb1 c6
  replace c7 := Below.cell_of hb1 c7
  replace c8 := Below.cell_of hb1 c8
  replace c9 := Below.cell_of hb1 c9
  replace c10 := Below.cell_of hb1 c10
  replace c11 := Below.cell_of hb1 c11
  replace hbW := hbW.trans (hb1.mono hbW.size)
  clear hb1
  go_wp2_with fail
  refine (Kxz.out _ hbW).mono ?_
  rintro e W5 ⟨rfl, hb1⟩
  replace c0 := Below.cell_of hb1 c0
  replace c1 := Below.cell_of hb1 c1
  replace c2 := Below.cell_of hb1 c2
  replace c3 := Below.cell_of hb1 c3
  replace c4 := Below.cell_of hb1 c4
  replace c5 := Below.cell_of hb1 c5
  replace c6 := Below.cell_of hb1 c6
  replace c7 := Below.cell_of hb1 c7
  replace c8 := Below.cell_of hb1 c8
  replace c9 := Below.cell_of hb1 c9
  replace c10 := Below.cell_of hb1 c10
  replace c11 := Below.cell_of hb1 c11
  replace hbW := hbW.trans (hb1.mono hbW.size)
  clear hb1
  go_wp2_with fail
  go_ret
  exact ⟨ret_bool (by first | rfl | decide), hbW⟩

set_option maxHeartbeats 1000000 in
theorem total_0_0_1 (x y z : Val) (A B C : Option Addr) (c d e1 : Nat) (w : World) (hn : x.l.length ≤ maxLen) (hm : y.l.length ≤ maxLen) (hp : z.l.length ≤ maxLen)
    (hx : Reads w w.heap.size 1 A x.l.length (numV .i64 x.l)) (hy : Reads w w.heap.size 1 B y.l.length (numV .i64 y.l)) (hz : Reads w w.heap.size 1 C z.l.length (numV .i64 z.l)) (hpv : cmpV x y = -1) (hqv : cmpV y z = -1) (hrv : cmpV x z = 0) :
    Calls Try.prog 3 #[.agg #[.int .i64 x.k, .int .i64 x.n, .string x.s, .slice A x.l.length c], .agg #[.int .i64 y.k, .int .i64 y.n, .string y.s, .slice B y.l.length d], .agg #[.int .i64 z.k, .int .i64 z.n, .string z.s, .slice C z.l.length e1]] w
      fun e w' => e = .returned (.bool true) ∧ Below w.heap.size w w' := by
  have Kxy : Hid (∀ w' : World, Below w.heap.size w w' → Calls Try.prog 9 #[.agg #[.int .i64 x.k, .int .i64 x.n, .string x.s, .slice A x.l.length c], .agg #[.int .i64 y.k, .int .i64 y.n, .string y.s, .slice B y.l.length d]] w' fun e w'' => e = .returned (.int .i64 (-1)) ∧ Below w'.heap.size w' w'') := Lib.hid fun w' hb => by
    have := compare_any x y A B c d w.heap.size w.heap.size w' hn hm (hx.below hb) (hy.below hb) hb.size hb.size
    rw [show cmpV x y = -1 by first | assumption | (rw [cmpV_anti]; omega) | exact cmpV_self _] at this
    exact this
  have Kyx : Hid (∀ w' : World, Below w.heap.size w w' → Calls Try.prog 9 #[.agg #[.int .i64 y.k, .int .i64 y.n, .string y.s, .slice B y.l.length d], .agg #[.int .i64 x.k, .int .i64 x.n, .string x.s, .slice A x.l.length c]] w' fun e w'' => e = .returned (.int .i64 (1)) ∧ Below w'.heap.size w' w'') := Lib.hid fun w' hb => by
    have := compare_any y x B A d c w.heap.size w.heap.size w' hm hn (hy.below hb) (hx.below hb) hb.size hb.size
    rw [show cmpV y x = 1 by first | assumption | (rw [cmpV_anti]; omega) | exact cmpV_self _] at this
    exact this
  have Kxx : Hid (∀ w' : World, Below w.heap.size w w' → Calls Try.prog 9 #[.agg #[.int .i64 x.k, .int .i64 x.n, .string x.s, .slice A x.l.length c], .agg #[.int .i64 x.k, .int .i64 x.n, .string x.s, .slice A x.l.length c]] w' fun e w'' => e = .returned (.int .i64 (0)) ∧ Below w'.heap.size w' w'') := Lib.hid fun w' hb => by
    have := compare_any x x A A c c w.heap.size w.heap.size w' hn hn (hx.below hb) (hx.below hb) hb.size hb.size
    rw [show cmpV x x = 0 by first | assumption | (rw [cmpV_anti]; omega) | exact cmpV_self _] at this
    exact this
  have Kyz : Hid (∀ w' : World, Below w.heap.size w w' → Calls Try.prog 9 #[.agg #[.int .i64 y.k, .int .i64 y.n, .string y.s, .slice B y.l.length d], .agg #[.int .i64 z.k, .int .i64 z.n, .string z.s, .slice C z.l.length e1]] w' fun e w'' => e = .returned (.int .i64 (-1)) ∧ Below w'.heap.size w' w'') := Lib.hid fun w' hb => by
    have := compare_any y z B C d e1 w.heap.size w.heap.size w' hm hp (hy.below hb) (hz.below hb) hb.size hb.size
    rw [show cmpV y z = -1 by first | assumption | (rw [cmpV_anti]; omega) | exact cmpV_self _] at this
    exact this
  have Kxz : Hid (∀ w' : World, Below w.heap.size w w' → Calls Try.prog 9 #[.agg #[.int .i64 x.k, .int .i64 x.n, .string x.s, .slice A x.l.length c], .agg #[.int .i64 z.k, .int .i64 z.n, .string z.s, .slice C z.l.length e1]] w' fun e w'' => e = .returned (.int .i64 (0)) ∧ Below w'.heap.size w' w'') := Lib.hid fun w' hb => by
    have := compare_any x z A C c e1 w.heap.size w.heap.size w' hn hp (hx.below hb) (hz.below hb) hb.size hb.size
    rw [show cmpV x z = 0 by first | assumption | (rw [cmpV_anti]; omega) | exact cmpV_self _] at this
    exact this
  clear hpv hqv hrv hn hm hp hx hy hz
  obtain ⟨W, hW⟩ : ∃ W, W = (((w.alloc (.cells #[.int .i64 x.k, .int .i64 x.n, .string x.s, .slice A x.l.length c] 24)).alloc (.cells #[.int .i64 y.k, .int .i64 y.n, .string y.s, .slice B y.l.length d] 24)).alloc (.cells #[.int .i64 z.k, .int .i64 z.n, .string z.s, .slice C z.l.length e1] 24)) := ⟨_, rfl⟩
  have hbW : Below w.heap.size w W := by rw [hW]; exact ((((Below.refl _ _).alloc (Nat.le_refl _) _).alloc (by simp) _).alloc (by simp; omega) _)
  have c0 : W.cell? ⟨w.heap.size, 0, none⟩ = some (.int .i64 x.k) := by rw [hW]; simp [go_sem]
  have c1 : W.cell? ⟨w.heap.size, 1, none⟩ = some (.int .i64 x.n) := by rw [hW]; simp [go_sem]
  have c2 : W.cell? ⟨w.heap.size, 2, none⟩ = some (.string x.s) := by rw [hW]; simp [go_sem]
  have c3 : W.cell? ⟨w.heap.size, 3, none⟩ = some (.slice A x.l.length c) := by rw [hW]; simp [go_sem]
  have c4 : W.cell? ⟨w.heap.size + 1, 0, none⟩ = some (.int .i64 y.k) := by rw [hW]; simp [go_sem]
  have c5 : W.cell? ⟨w.heap.size + 1, 1, none⟩ = some (.int .i64 y.n) := by rw [hW]; simp [go_sem]
  have c6 : W.cell? ⟨w.heap.size + 1, 2, none⟩ = some (.string y.s) := by rw [hW]; simp [go_sem]
  have c7 : W.cell? ⟨w.heap.size + 1, 3, none⟩ = some (.slice B y.l.length d) := by rw [hW]; simp [go_sem]
  have c8 : W.cell? ⟨w.heap.size + 1 + 1, 0, none⟩ = some (.int .i64 z.k) := by rw [hW]; simp [go_sem]
  have c9 : W.cell? ⟨w.heap.size + 1 + 1, 1, none⟩ = some (.int .i64 z.n) := by rw [hW]; simp [go_sem]
  have c10 : W.cell? ⟨w.heap.size + 1 + 1, 2, none⟩ = some (.string z.s) := by rw [hW]; simp [go_sem]
  have c11 : W.cell? ⟨w.heap.size + 1 + 1, 3, none⟩ = some (.slice C z.l.length e1) := by rw [hW]; simp [go_sem]
  have r0 := Later.cell c0
  have r1 := Later.cell c1
  have r2 := Later.cell c2
  have r3 := Later.cell c3
  have r4 := Later.cell c4
  have r5 := Later.cell c5
  have r6 := Later.cell c6
  have r7 := Later.cell c7
  have r8 := Later.cell c8
  have r9 := Later.cell c9
  have r10 := Later.cell c10
  have r11 := Later.cell c11
  have HW := Lib.hid hW
  clear hW
  go_enter Try.func3, Try.ntmps3
  go_wp2_with fail
  rw [← HW.out]
  clear HW
  refine wp_region_later (by kernel_rfl) (by kernel_rfl) ?_
  repeat (go_big_quiet_step (first | with_reducible exact Later.call (fun w' hb => Kxy.out w' (hbW.trans (hb.mono hbW.size))) _ | with_reducible exact Later.call (fun w' hb => Kyx.out w' (hbW.trans (hb.mono hbW.size))) _ | with_reducible exact Later.call (fun w' hb => Kxx.out w' (hbW.trans (hb.mono hbW.size))) _))
  refine wpQuiet_nil ?_
  intro _ hw'
  obtain ⟨⟨W1, hb1⟩, rfl⟩ := hw'
  replace c0 := Below.cell_of hb1 c0
  replace c1 := Below.cell_of hb1 c1
  replace c2 := Below.cell_of hb1 c2
  replace c3 := Below.cell_of hb1 c3
  replace c4 := Below.cell_of hb1 c4
  replace c5 := Below.cell_of hb1 c5
  replace c6 := Below.cell_of hb1 c6
  replace c7 := Below.cell_of hb1 c7
  replace c8 := Below.cell_of hb1 c8
  replace c9 := Below.cell_of hb1 c9
  replace c10 := Below.cell_of hb1 c10
  replace c11 := Below.cell_of hb1 c11
  clear r0 r1 r2 r3 r4 r5 r6 r7 r8 r9 r10 r11
  replace hbW := hbW.trans (hb1.mono hbW.size)
  clear hb1
  go_wp2_with fail
  refine (Kxy.out _ hbW).mono ?_
  rintro e W2 ⟨rfl, hb1⟩
  replace c0 := Below.cell_of hb1 c0
  replace c1 := Below.cell_of hb1 c1
  replace c2 := Below.cell_of hb1 c2
  replace c3 := Below.cell_of hb1 c3
  replace c4 := Below.cell_of hb1 c4
  replace c5 := Below.cell_of hb1 c5
  replace c6 := Below.cell_of hb1 c6
  replace c7 := Below.cell_of hb1 c7
  replace c8 := Below.cell_of hb1 c8
  replace c9 := Below.cell_of hb1 c9
  replace c10 := Below.cell_of hb1 c10
  replace c11 := Below.cell_of hb1 c11
  replace hbW := hbW.trans (hb1.mono hbW.size)
  clear hb1
  go_wp2_with fail
  refine (Kxy.out _ hbW).mono ?_
  rintro e W3 ⟨rfl, hb1⟩
  replace c0 := Below.cell_of hb1 c0
  replace c1 := Below.cell_of hb1 c1
  replace c2 := Below.cell_of hb1 c2
  replace c3 := Below.cell_of hb1 c3
  replace c4 := Below.cell_of hb1 c4
  replace c5 := Below.cell_of hb1 c5
  replace c6 := Below.cell_of hb1 c6
  replace c7 := Below.cell_of hb1 c7
  replace c8 := Below.cell_of hb1 c8
  replace c9 := Below.cell_of hb1 c9
  replace c10 := Below.cell_of hb1 c10
  replace c11 := Below.cell_of hb1 c11
  replace hbW := hbW.trans (hb1.mono hbW.size)
  clear hb1
  go_wp2_with fail
  refine (Kyz.out _ hbW).mono ?_
  rintro e W4 ⟨rfl, hb1⟩
  replace c0 := Below.cell_of hb1 c0
  replace c1 := Below.cell_of hb1 c1
  replace c2 := Below.cell_of hb1 c2
  replace c3 := Below.cell_of hb1 c3
  replace c4 := Below.cell_of hb1 c4
  replace c5 := Below.cell_of hb1 c5
  replace c6 := Below.cell_of hb1 c6
  replace c7 := Below.cell_of hb1 c7
  replace c8 := Below.cell_of hb1 c8
  replace c9 := Below.cell_of hb1 c9
  replace c10 := Below.cell_of hb1 c10
  replace c11 := Below.cell_of hb1 c11
  replace hbW := hbW.trans (hb1.mono hbW.size)
  clear hb1
  go_wp2_with fail
  refine (Kxz.out _ hbW).mono ?_
  rintro e W5 ⟨rfl, hb1⟩
  replace c0 := Below.cell_of hb1 c0
  replace c1 := Below.cell_of hb1 c1
  replace c2 := Below.cell_of hb1 c2
  replace c3 := Below.cell_of hb1 c3
  replace c4 := Below.cell_of hb1 c4
  replace c5 := Below.cell_of hb1 c5
  replace c6 := Below.cell_of hb1 c6
  replace c7 := Below.cell_of hb1 c7
  replace c8 := Below.cell_of hb1 c8
  replace c9 := Below.cell_of hb1 c9
  replace c10 := Below.cell_of hb1 c10
  replace c11 := Below.cell_of hb1 c11
  replace hbW := hbW.trans (hb1.mono hbW.size)
  clear hb1
  go_wp2_with fail
  go_ret
  exact ⟨ret_bool (by first | rfl | decide), hbW⟩

set_option maxHeartbeats 1000000 in
theorem total_0_0_0 (x y z : Val) (A B C : Option Addr) (c d e1 : Nat) (w : World) (hn : x.l.length ≤ maxLen) (hm : y.l.length ≤ maxLen) (hp : z.l.length ≤ maxLen)
    (hx : Reads w w.heap.size 1 A x.l.length (numV .i64 x.l)) (hy : Reads w w.heap.size 1 B y.l.length (numV .i64 y.l)) (hz : Reads w w.heap.size 1 C z.l.length (numV .i64 z.l)) (hpv : cmpV x y = -1) (hqv : cmpV y z = -1) (hrv : cmpV x z = -1) :
    Calls Try.prog 3 #[.agg #[.int .i64 x.k, .int .i64 x.n, .string x.s, .slice A x.l.length c], .agg #[.int .i64 y.k, .int .i64 y.n, .string y.s, .slice B y.l.length d], .agg #[.int .i64 z.k, .int .i64 z.n, .string z.s, .slice C z.l.length e1]] w
      fun e w' => e = .returned (.bool true) ∧ Below w.heap.size w w' := by
  have Kxy : Hid (∀ w' : World, Below w.heap.size w w' → Calls Try.prog 9 #[.agg #[.int .i64 x.k, .int .i64 x.n, .string x.s, .slice A x.l.length c], .agg #[.int .i64 y.k, .int .i64 y.n, .string y.s, .slice B y.l.length d]] w' fun e w'' => e = .returned (.int .i64 (-1)) ∧ Below w'.heap.size w' w'') := Lib.hid fun w' hb => by
    have := compare_any x y A B c d w.heap.size w.heap.size w' hn hm (hx.below hb) (hy.below hb) hb.size hb.size
    rw [show cmpV x y = -1 by first | assumption | (rw [cmpV_anti]; omega) | exact cmpV_self _] at this
    exact this
  have Kyx : Hid (∀ w' : World, Below w.heap.size w w' → Calls Try.prog 9 #[.agg #[.int .i64 y.k, .int .i64 y.n, .string y.s, .slice B y.l.length d], .agg #[.int .i64 x.k, .int .i64 x.n, .string x.s, .slice A x.l.length c]] w' fun e w'' => e = .returned (.int .i64 (1)) ∧ Below w'.heap.size w' w'') := Lib.hid fun w' hb => by
    have := compare_any y x B A d c w.heap.size w.heap.size w' hm hn (hy.below hb) (hx.below hb) hb.size hb.size
    rw [show cmpV y x = 1 by first | assumption | (rw [cmpV_anti]; omega) | exact cmpV_self _] at this
    exact this
  have Kxx : Hid (∀ w' : World, Below w.heap.size w w' → Calls Try.prog 9 #[.agg #[.int .i64 x.k, .int .i64 x.n, .string x.s, .slice A x.l.length c], .agg #[.int .i64 x.k, .int .i64 x.n, .string x.s, .slice A x.l.length c]] w' fun e w'' => e = .returned (.int .i64 (0)) ∧ Below w'.heap.size w' w'') := Lib.hid fun w' hb => by
    have := compare_any x x A A c c w.heap.size w.heap.size w' hn hn (hx.below hb) (hx.below hb) hb.size hb.size
    rw [show cmpV x x = 0 by first | assumption | (rw [cmpV_anti]; omega) | exact cmpV_self _] at this
    exact this
  have Kyz : Hid (∀ w' : World, Below w.heap.size w w' → Calls Try.prog 9 #[.agg #[.int .i64 y.k, .int .i64 y.n, .string y.s, .slice B y.l.length d], .agg #[.int .i64 z.k, .int .i64 z.n, .string z.s, .slice C z.l.length e1]] w' fun e w'' => e = .returned (.int .i64 (-1)) ∧ Below w'.heap.size w' w'') := Lib.hid fun w' hb => by
    have := compare_any y z B C d e1 w.heap.size w.heap.size w' hm hp (hy.below hb) (hz.below hb) hb.size hb.size
    rw [show cmpV y z = -1 by first | assumption | (rw [cmpV_anti]; omega) | exact cmpV_self _] at this
    exact this
  have Kxz : Hid (∀ w' : World, Below w.heap.size w w' → Calls Try.prog 9 #[.agg #[.int .i64 x.k, .int .i64 x.n, .string x.s, .slice A x.l.length c], .agg #[.int .i64 z.k, .int .i64 z.n, .string z.s, .slice C z.l.length e1]] w' fun e w'' => e = .returned (.int .i64 (-1)) ∧ Below w'.heap.size w' w'') := Lib.hid fun w' hb => by
    have := compare_any x z A C c e1 w.heap.size w.heap.size w' hn hp (hx.below hb) (hz.below hb) hb.size hb.size
    rw [show cmpV x z = -1 by first | assumption | (rw [cmpV_anti]; omega) | exact cmpV_self _] at this
    exact this
  clear hpv hqv hrv hn hm hp hx hy hz
  obtain ⟨W, hW⟩ : ∃ W, W = (((w.alloc (.cells #[.int .i64 x.k, .int .i64 x.n, .string x.s, .slice A x.l.length c] 24)).alloc (.cells #[.int .i64 y.k, .int .i64 y.n, .string y.s, .slice B y.l.length d] 24)).alloc (.cells #[.int .i64 z.k, .int .i64 z.n, .string z.s, .slice C z.l.length e1] 24)) := ⟨_, rfl⟩
  have hbW : Below w.heap.size w W := by rw [hW]; exact ((((Below.refl _ _).alloc (Nat.le_refl _) _).alloc (by simp) _).alloc (by simp; omega) _)
  have c0 : W.cell? ⟨w.heap.size, 0, none⟩ = some (.int .i64 x.k) := by rw [hW]; simp [go_sem]
  have c1 : W.cell? ⟨w.heap.size, 1, none⟩ = some (.int .i64 x.n) := by rw [hW]; simp [go_sem]
  have c2 : W.cell? ⟨w.heap.size, 2, none⟩ = some (.string x.s) := by rw [hW]; simp [go_sem]
  have c3 : W.cell? ⟨w.heap.size, 3, none⟩ = some (.slice A x.l.length c) := by rw [hW]; simp [go_sem]
  have c4 : W.cell? ⟨w.heap.size + 1, 0, none⟩ = some (.int .i64 y.k) := by rw [hW]; simp [go_sem]
  have c5 : W.cell? ⟨w.heap.size + 1, 1, none⟩ = some (.int .i64 y.n) := by rw [hW]; simp [go_sem]
  have c6 : W.cell? ⟨w.heap.size + 1, 2, none⟩ = some (.string y.s) := by rw [hW]; simp [go_sem]
  have c7 : W.cell? ⟨w.heap.size + 1, 3, none⟩ = some (.slice B y.l.length d) := by rw [hW]; simp [go_sem]
  have c8 : W.cell? ⟨w.heap.size + 1 + 1, 0, none⟩ = some (.int .i64 z.k) := by rw [hW]; simp [go_sem]
  have c9 : W.cell? ⟨w.heap.size + 1 + 1, 1, none⟩ = some (.int .i64 z.n) := by rw [hW]; simp [go_sem]
  have c10 : W.cell? ⟨w.heap.size + 1 + 1, 2, none⟩ = some (.string z.s) := by rw [hW]; simp [go_sem]
  have c11 : W.cell? ⟨w.heap.size + 1 + 1, 3, none⟩ = some (.slice C z.l.length e1) := by rw [hW]; simp [go_sem]
  have r0 := Later.cell c0
  have r1 := Later.cell c1
  have r2 := Later.cell c2
  have r3 := Later.cell c3
  have r4 := Later.cell c4
  have r5 := Later.cell c5
  have r6 := Later.cell c6
  have r7 := Later.cell c7
  have r8 := Later.cell c8
  have r9 := Later.cell c9
  have r10 := Later.cell c10
  have r11 := Later.cell c11
  have HW := Lib.hid hW
  clear hW
  go_enter Try.func3, Try.ntmps3
  go_wp2_with fail
  rw [← HW.out]
  clear HW
  refine wp_region_later (by kernel_rfl) (by kernel_rfl) ?_
  repeat (go_big_quiet_step (first | with_reducible exact Later.call (fun w' hb => Kxy.out w' (hbW.trans (hb.mono hbW.size))) _ | with_reducible exact Later.call (fun w' hb => Kyx.out w' (hbW.trans (hb.mono hbW.size))) _ | with_reducible exact Later.call (fun w' hb => Kxx.out w' (hbW.trans (hb.mono hbW.size))) _))
  refine wpQuiet_nil ?_
  intro _ hw'
  obtain ⟨⟨W1, hb1⟩, rfl⟩ := hw'
  replace c0 := Below.cell_of hb1 c0
  replace c1 := Below.cell_of hb1 c1
  replace c2 := Below.cell_of hb1 c2
  replace c3 := Below.cell_of hb1 c3
  replace c4 := Below.cell_of hb1 c4
  replace c5 := Below.cell_of hb1 c5
  replace c6 := Below.cell_of hb1 c6
  replace c7 := Below.cell_of hb1 c7
  replace c8 := Below.cell_of hb1 c8
  replace c9 := Below.cell_of hb1 c9
  replace c10 := Below.cell_of hb1 c10
  replace c11 := Below.cell_of hb1 c11
  clear r0 r1 r2 r3 r4 r5 r6 r7 r8 r9 r10 r11
  replace hbW := hbW.trans (hb1.mono hbW.size)
  clear hb1
  go_wp2_with fail
  refine (Kxy.out _ hbW).mono ?_
  rintro e W2 ⟨rfl, hb1⟩
  replace c0 := Below.cell_of hb1 c0
  replace c1 := Below.cell_of hb1 c1
  replace c2 := Below.cell_of hb1 c2
  replace c3 := Below.cell_of hb1 c3
  replace c4 := Below.cell_of hb1 c4
  replace c5 := Below.cell_of hb1 c5
  replace c6 := Below.cell_of hb1 c6
  replace c7 := Below.cell_of hb1 c7
  replace c8 := Below.cell_of hb1 c8
  replace c9 := Below.cell_of hb1 c9
  replace c10 := Below.cell_of hb1 c10
  replace c11 := Below.cell_of hb1 c11
  replace hbW := hbW.trans (hb1.mono hbW.size)
  clear hb1
  go_wp2_with fail
  refine (Kxy.out _ hbW).mono ?_
  rintro e W3 ⟨rfl, hb1⟩
  replace c0 := Below.cell_of hb1 c0
  replace c1 := Below.cell_of hb1 c1
  replace c2 := Below.cell_of hb1 c2
  replace c3 := Below.cell_of hb1 c3
  replace c4 := Below.cell_of hb1 c4
  replace c5 := Below.cell_of hb1 c5
  replace c6 := Below.cell_of hb1 c6
  replace c7 := Below.cell_of hb1 c7
  replace c8 := Below.cell_of hb1 c8
  replace c9 := Below.cell_of hb1 c9
  replace c10 := Below.cell_of hb1 c10
  replace c11 := Below.cell_of hb1 c11
  replace hbW := hbW.trans (hb1.mono hbW.size)
  clear hb1
  go_wp2_with fail
  refine (Kyz.out _ hbW).mono ?_
  rintro e W4 ⟨rfl, hb1⟩
  replace c0 := Below.cell_of hb1 c0
  replace c1 := Below.cell_of hb1 c1
  replace c2 := Below.cell_of hb1 c2
  replace c3 := Below.cell_of hb1 c3
  replace c4 := Below.cell_of hb1 c4
  replace c5 := Below.cell_of hb1 c5
  replace c6 := Below.cell_of hb1 c6
  replace c7 := Below.cell_of hb1 c7
  replace c8 := Below.cell_of hb1 c8
  replace c9 := Below.cell_of hb1 c9
  replace c10 := Below.cell_of hb1 c10
  replace c11 := Below.cell_of hb1 c11
  replace hbW := hbW.trans (hb1.mono hbW.size)
  clear hb1
  go_wp2_with fail
  refine (Kxz.out _ hbW).mono ?_
  rintro e W5 ⟨rfl, hb1⟩
  replace c0 := Below.cell_of hb1 c0
  replace c1 := Below.cell_of hb1 c1
  replace c2 := Below.cell_of hb1 c2
  replace c3 := Below.cell_of hb1 c3
  replace c4 := Below.cell_of hb1 c4
  replace c5 := Below.cell_of hb1 c5
  replace c6 := Below.cell_of hb1 c6
  replace c7 := Below.cell_of hb1 c7
  replace c8 := Below.cell_of hb1 c8
  replace c9 := Below.cell_of hb1 c9
  replace c10 := Below.cell_of hb1 c10
  replace c11 := Below.cell_of hb1 c11
  replace hbW := hbW.trans (hb1.mono hbW.size)
  clear hb1
  go_wp2_with fail
  go_ret
  exact ⟨ret_bool (by first | rfl | decide), hbW⟩

theorem total_any (x y z : Val) (A B C : Option Addr) (c d e1 : Nat) (w : World) (hn : x.l.length ≤ maxLen) (hm : y.l.length ≤ maxLen) (hp : z.l.length ≤ maxLen)
    (hx : Reads w w.heap.size 1 A x.l.length (numV .i64 x.l)) (hy : Reads w w.heap.size 1 B y.l.length (numV .i64 y.l)) (hz : Reads w w.heap.size 1 C z.l.length (numV .i64 z.l)) :
    Calls Try.prog 3 #[.agg #[.int .i64 x.k, .int .i64 x.n, .string x.s, .slice A x.l.length c], .agg #[.int .i64 y.k, .int .i64 y.n, .string y.s, .slice B y.l.length d], .agg #[.int .i64 z.k, .int .i64 z.n, .string z.s, .slice C z.l.length e1]] w
      fun e w' => e = .returned (.bool true) ∧ Below w.heap.size w w' := by
  rcases cmpV_range x y with hpv | hpv | hpv
  · rcases cmpV_range y z with hqv | hqv | hqv
    · rcases cmpV_range x z with hrv | hrv | hrv
      · exact total_0_0_0 x y z A B C c d e1 w hn hm hp hx hy hz hpv hqv hrv
      · exact total_0_0_1 x y z A B C c d e1 w hn hm hp hx hy hz hpv hqv hrv
      · have := cmpV_trans (x := x) (y := y) (z := z) (by omega) (by omega)
        omega
    · rcases cmpV_range x z with hrv | hrv | hrv
      · exact total_0_1_0 x y z A B C c d e1 w hn hm hp hx hy hz hpv hqv hrv
      · exact total_0_1_1 x y z A B C c d e1 w hn hm hp hx hy hz hpv hqv hrv
      · have := cmpV_trans (x := x) (y := y) (z := z) (by omega) (by omega)
        omega
    · exact total_0_q1 x y z A B C c d e1 w hn hm hp hx hy hz hpv hqv
  · rcases cmpV_range y z with hqv | hqv | hqv
    · rcases cmpV_range x z with hrv | hrv | hrv
      · exact total_1_0_0 x y z A B C c d e1 w hn hm hp hx hy hz hpv hqv hrv
      · exact total_1_0_1 x y z A B C c d e1 w hn hm hp hx hy hz hpv hqv hrv
      · have := cmpV_trans (x := x) (y := y) (z := z) (by omega) (by omega)
        omega
    · rcases cmpV_range x z with hrv | hrv | hrv
      · exact total_1_1_0 x y z A B C c d e1 w hn hm hp hx hy hz hpv hqv hrv
      · exact total_1_1_1 x y z A B C c d e1 w hn hm hp hx hy hz hpv hqv hrv
      · have := cmpV_trans (x := x) (y := y) (z := z) (by omega) (by omega)
        omega
    · exact total_1_q1 x y z A B C c d e1 w hn hm hp hx hy hz hpv hqv
  · exact total_1 x y z A B C c d e1 w hn hm hp hx hy hz hpv
end Go.Proofs.Ytfkgodgjchbbpaa
