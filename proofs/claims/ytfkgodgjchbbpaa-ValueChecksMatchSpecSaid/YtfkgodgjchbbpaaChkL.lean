/- 'ValueChecksMatchSpec' is proved: Check and Compare of the program are those of the reference, for any two values. No condition. -/
import Derived.Test.YtfkgodgjchbbpaaChk
import Derived.Test.YtfkgodgjchbbpaaLaw
namespace Go.Proofs.Ytfkgodgjchbbpaa
open Go.ChangeShapes Go.WideShapes Go.ChangeAt Go.RowKit Go.Joins

set_option maxHeartbeats 1000000 in
theorem checks_any (x y : Val) (A B : Option Addr) (c d : Nat) (w : World) (hn : x.l.length ≤ maxLen) (hm : y.l.length ≤ maxLen) (hs : x.s.size ≤ maxLen) (ht : y.s.size ≤ maxLen)
    (hx : Reads w w.heap.size 1 A x.l.length (numV .i64 x.l)) (hy : Reads w w.heap.size 1 B y.l.length (numV .i64 y.l)) :
    Calls Try.prog 8 #[.agg #[.int .i64 x.k, .int .i64 x.n, .string x.s, .slice A x.l.length c], .agg #[.int .i64 y.k, .int .i64 y.n, .string y.s, .slice B y.l.length d]] w
      fun e w' => e = .returned (.bool true) ∧ Below w.heap.size w w' := by
  obtain ⟨W, hW⟩ : ∃ W, W = ((w.alloc (.cells #[.int .i64 x.k, .int .i64 x.n, .string x.s, .slice A x.l.length c] 24)).alloc (.cells #[.int .i64 y.k, .int .i64 y.n, .string y.s, .slice B y.l.length d] 24)) := ⟨_, rfl⟩
  have hbW : Below w.heap.size w W := by rw [hW]; exact (((Below.refl _ _).alloc (Nat.le_refl _) _).alloc (by simp) _)
  have k1 : ∀ w' : World, Below W.heap.size W w' → Calls Try.prog 25 #[.agg #[.int .i64 x.k, .int .i64 x.n, .string x.s, .slice A x.l.length c]] w' fun e w'' => e = .returned (.int .i64 (checkV x)) ∧ Below w'.heap.size w' w'' := fun w' hb => check_any x A c w.heap.size w' hn hs ((hx.below hbW).below (hb.mono hbW.size)) (Nat.le_trans hbW.size hb.size)
  have k2 : ∀ w' : World, Below W.heap.size W w' → Calls Try.prog 26 #[.agg #[.int .i64 x.k, .int .i64 x.n, .string x.s, .slice A x.l.length c]] w' fun e w'' => e = .returned (.int .i64 (checkV x)) ∧ Below w'.heap.size w' w'' := fun w' hb => rcheck_any x A c w.heap.size w' hn hs ((hx.below hbW).below (hb.mono hbW.size)) (Nat.le_trans hbW.size hb.size)
  have k3 : ∀ w' : World, Below W.heap.size W w' → Calls Try.prog 25 #[.agg #[.int .i64 y.k, .int .i64 y.n, .string y.s, .slice B y.l.length d]] w' fun e w'' => e = .returned (.int .i64 (checkV y)) ∧ Below w'.heap.size w' w'' := fun w' hb => check_any y B d w.heap.size w' hm ht ((hy.below hbW).below (hb.mono hbW.size)) (Nat.le_trans hbW.size hb.size)
  have k4 : ∀ w' : World, Below W.heap.size W w' → Calls Try.prog 26 #[.agg #[.int .i64 y.k, .int .i64 y.n, .string y.s, .slice B y.l.length d]] w' fun e w'' => e = .returned (.int .i64 (checkV y)) ∧ Below w'.heap.size w' w'' := fun w' hb => rcheck_any y B d w.heap.size w' hm ht ((hy.below hbW).below (hb.mono hbW.size)) (Nat.le_trans hbW.size hb.size)
  have k5 : ∀ w' : World, Below W.heap.size W w' → Calls Try.prog 9 #[.agg #[.int .i64 x.k, .int .i64 x.n, .string x.s, .slice A x.l.length c], .agg #[.int .i64 y.k, .int .i64 y.n, .string y.s, .slice B y.l.length d]] w' fun e w'' => e = .returned (.int .i64 (cmpV x y)) ∧ Below w'.heap.size w' w'' := fun w' hb => compare_any x y A B c d w.heap.size w.heap.size w' hn hm ((hx.below hbW).below (hb.mono hbW.size)) ((hy.below hbW).below (hb.mono hbW.size)) (Nat.le_trans hbW.size hb.size) (Nat.le_trans hbW.size hb.size)
  have k6 : ∀ w' : World, Below W.heap.size W w' → Calls Try.prog 27 #[.agg #[.int .i64 x.k, .int .i64 x.n, .string x.s, .slice A x.l.length c], .agg #[.int .i64 y.k, .int .i64 y.n, .string y.s, .slice B y.l.length d]] w' fun e w'' => e = .returned (.int .i64 (cmpV x y)) ∧ Below w'.heap.size w' w'' := fun w' hb => rcompare_any x y A B c d w.heap.size w.heap.size w' hn hm ((hx.below hbW).below (hb.mono hbW.size)) ((hy.below hbW).below (hb.mono hbW.size)) (Nat.le_trans hbW.size hb.size) (Nat.le_trans hbW.size hb.size)
  have K1 := Lib.hid (Later.call k1)
  have K2 := Lib.hid (Later.call k2)
  have K3 := Lib.hid (Later.call k3)
  have K4 := Lib.hid (Later.call k4)
  have K5 := Lib.hid (Later.call k5)
  have K6 := Lib.hid (Later.call k6)
  clear k1 k2 k3 k4 k5 k6 hx hy hn hm hs ht
  have r0 := Later.cell (show W.cell? ⟨w.heap.size, 0, none⟩ = some (.int .i64 x.k) by rw [hW]; simp [go_sem])
  have r1 := Later.cell (show W.cell? ⟨w.heap.size, 1, none⟩ = some (.int .i64 x.n) by rw [hW]; simp [go_sem])
  have r2 := Later.cell (show W.cell? ⟨w.heap.size, 2, none⟩ = some (.string x.s) by rw [hW]; simp [go_sem])
  have r3 := Later.cell (show W.cell? ⟨w.heap.size, 3, none⟩ = some (.slice A x.l.length c) by rw [hW]; simp [go_sem])
  have r4 := Later.cell (show W.cell? ⟨w.heap.size + 1, 0, none⟩ = some (.int .i64 y.k) by rw [hW]; simp [go_sem])
  have r5 := Later.cell (show W.cell? ⟨w.heap.size + 1, 1, none⟩ = some (.int .i64 y.n) by rw [hW]; simp [go_sem])
  have r6 := Later.cell (show W.cell? ⟨w.heap.size + 1, 2, none⟩ = some (.string y.s) by rw [hW]; simp [go_sem])
  have r7 := Later.cell (show W.cell? ⟨w.heap.size + 1, 3, none⟩ = some (.slice B y.l.length d) by rw [hW]; simp [go_sem])
  have HW := Lib.hid hW
  clear hW
  go_enter Try.func8, Try.ntmps8
  go_wp2_with fail
  rw [← HW.out]
  clear HW
  refine wp_region_later (by kernel_rfl) (by kernel_rfl) ?_
  repeat (go_big_quiet_step (first | with_reducible exact K1.out _ | with_reducible exact K2.out _ | with_reducible exact K3.out _ | with_reducible exact K4.out _ | with_reducible exact K5.out _ | with_reducible exact K6.out _))
  refine wpQuiet_nil ?_
  intro _ hw'
  obtain ⟨⟨W1, hb1⟩, rfl⟩ := hw'
  go_wp2_with fail
  go_ret
  exact ⟨rfl, hbW.trans (hb1.mono hbW.size)⟩

set_option maxRecDepth 100000 in
theorem checks_lifted (os : Os) (started : os.Started) (H : Type) (enc : TypeId × Value → H) :
    ReturnsInHanded {} Try.checked os 8 .any (Rows.valueChecksMatchSpecSpec.pre6 enc Try.prog Try.f8 Rows.valueChecksMatchSpecRow.domain false) (Rows.valueChecksMatchSpecSpec.post enc Try.prog Try.f8 false true false false) := by
  refine returnsInHanded_of_change (C := Try.checked) own started (by kernel_rfl) Try.func8
    (ChangeSpec.witness6 (enc := enc) (C := Try.checked) false ⟨#[], #[.agg #[.int .i64 0, .int .i64 0, .string ⟨#[]⟩, .slice none 0 0], .agg #[.int .i64 0, .int .i64 0, .string ⟨#[]⟩, .slice none 0 0]], []⟩ 8 (by kernel_rfl) (by kernel_rfl) (by kernel_rfl) (by kernel_rfl)) ?_
  intro W base args ds gs before hval0 hW hcnd _
  have hval : ∀ (j : Nat) t v, Try.f8.params[j]? = some t → args[j]? = some v → Value.okWide Try.prog W .any base t v := hval0
  have hW' : DataW.Whole enc Try.prog Try.f8.params.toList [] false W args.toList ds gs before := hW
  obtain ⟨p, q, hA0, hV, rfl, -, -⟩ := hW
  have hA : DataW.TrodAll enc Try.prog W 0 (fun _ => true) true Try.f8.params.toList args.toList ds p := hA0
  rw [Try.params8] at hA hval
  obtain ⟨v0, vs0, d0, ds0, p0, q0, hargs, rfl, rfl, h0, r0⟩ := trodAll_cons hA
  obtain ⟨v1, vs1, d1, ds1, p1, q1, rfl, rfl, rfl, h1, r1⟩ := trodAll_cons r0
  obtain ⟨rfl, rfl, rfl⟩ := trodAll_nil r1
  obtain rfl : args = #[v0, v1] := by cases args; simp_all
  obtain ⟨rfl, rfl⟩ := trodVars_none hV
  obtain ⟨x0, A0, c0, rfl, hx0, hl0, hs0, -, -, -⟩ := open_val (hval 0 24 v0 rfl rfl) h0
  obtain ⟨x1, A1, c1, rfl, hx1, hl1, hs1, -, -, -⟩ := open_val (hval 1 24 v1 rfl rfl) h1
  clear hA0 hval0 hval
  refine (checks_any x0 x1 A0 A1 c0 c1 W hl0 hl1 hs0 hs1 hx0 hx1).mono fun e W' ⟨he, hb⟩ => ?_
  subst he
  exact ⟨_, rfl, law_post (by rw [Try.params8]; decide +kernel) rfl rfl rfl rfl rfl hW' hb⟩

theorem checks_holds : Rows.ValueChecksMatchSpecSaid :=
  OpenClaim.holds_of_wide 8 Try.f8 rfl rfl rfl rfl rfl rfl rfl ⟨rfl, rfl, rfl, rfl, rfl⟩ rfl rfl rfl rfl rfl (by kernel_rfl) Try.func8 (by kernel_rfl)
    (of_decide_eq_true (by kernel_rfl)) (by unfold Func.isWrapper; first | (rw [if_pos (by decide +kernel)]; kernel_rfl) | (rw [if_neg (by decide +kernel)]; exact ⟨rfl, rfl⟩))
    (fun os started H enc _ => checks_lifted os started H enc)
#print axioms checks_holds
end Go.Proofs.Ytfkgodgjchbbpaa
