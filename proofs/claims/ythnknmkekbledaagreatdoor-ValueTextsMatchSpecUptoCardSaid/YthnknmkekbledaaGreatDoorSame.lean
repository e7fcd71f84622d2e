/- The walk of the law's own 'same': two values are equal in all parts. No condition. -/
import Derived.Test.YthnknmkekbledaaGreatDoorEq
namespace Go.Proofs.YthnknmkekbledaaGreatDoor
open Go.RowKit

set_option maxHeartbeats 400000 in
theorem same_any (x y : Val) (A B : Option Addr) (c d B1 B2 : Nat) (w : World) (hn : x.l.length ≤ maxLen) (hm : y.l.length ≤ maxLen)
    (hx : Reads w B1 1 A x.l.length (numV .i64 x.l)) (hy : Reads w B2 1 B y.l.length (numV .i64 y.l)) (hB1 : B1 ≤ w.heap.size) (hB2 : B2 ≤ w.heap.size) :
    Calls Tryz.prog 8 #[.agg #[.int .i64 x.k, .int .i64 x.n, .string x.s, .slice A x.l.length c], .agg #[.int .i64 y.k, .int .i64 y.n, .string y.s, .slice B y.l.length d]] w
      fun e w' => e = .returned (.bool (sameV x y)) ∧ Below w.heap.size w w' := by
  by_cases h1 : x.k = y.k
  · have b1 : (x.k == y.k) = true := by simp [h1]
    have H1 := Lib.hid h1
    clear h1
    by_cases h2 : x.n = y.n
    · have b2 : (x.n == y.n) = true := by simp [h2]
      have H2 := Lib.hid h2
      clear h2
      by_cases h3 : x.s = y.s
      · have b3 := strEq_true h3
        have HR := Lib.hid (show sameV x y = decide (x.l = y.l) by simp [sameV, H1.out, H2.out, h3])
        clear h3
        go_enter Tryz.func8, Tryz.ntmps8
        go_wp2_with fail
        refine (equalInt_any _ _ _ _ _ _ B1 B2 _ _ _ hn hm ((hx.alloc (by omega) _).alloc (by simp; omega) _) ((hy.alloc (by omega) _).alloc (by simp; omega) _) (by simp; omega) (by simp; omega)).mono ?_
        rintro e w1 ⟨rfl, hb⟩
        go_wp2
        go_ret
        exact ⟨ret_bool (by rw [HR.out]), (((Below.refl _ _).alloc (Nat.le_refl _) _).alloc (by simp) _).trans (hb.mono (by simp; omega))⟩
      · have b3 := strEq_false h3
        have HR := Lib.hid (show sameV x y = false by simp [sameV, h3])
        clear h3
        go_enter Tryz.func8, Tryz.ntmps8
        go_wp2_with fail
        go_ret
        exact ⟨ret_bool (by rw [HR.out]), (((Below.refl _ _).alloc (Nat.le_refl _) _).alloc (by simp) _)⟩
    · have b2 : (x.n == y.n) = false := by simp [h2]
      have HR := Lib.hid (show sameV x y = false by simp [sameV, h2])
      clear h2
      go_enter Tryz.func8, Tryz.ntmps8
      go_wp2_with fail
      go_ret
      exact ⟨ret_bool (by rw [HR.out]), (((Below.refl _ _).alloc (Nat.le_refl _) _).alloc (by simp) _)⟩
  · have b1 : (x.k == y.k) = false := by simp [h1]
    have HR := Lib.hid (show sameV x y = false by simp [sameV, h1])
    clear h1
    go_enter Tryz.func8, Tryz.ntmps8
    go_wp2_with fail
    go_ret
    exact ⟨ret_bool (by rw [HR.out]), (((Below.refl _ _).alloc (Nat.le_refl _) _).alloc (by simp) _)⟩
end Go.Proofs.YthnknmkekbledaaGreatDoor
