/- The walks of 'Compare' of two values (both packages) and of 'same'. No condition. -/
import Derived.Test.YtfkgodgjchbbpaaEq
import Derived.Test.YtfkgodgjchbbpaaShelf
namespace Go.Proofs.Ytfkgodgjchbbpaa
open Go.RowKit

structure Val where
  k : Int
  n : Int
  s : ByteArray
  l : List Int

def cmpV (x y : Val) : Int :=
  if ordI x.k y.k ≠ 0 then ordI x.k y.k else if ordI x.n y.n ≠ 0 then ordI x.n y.n else
  if Lib.compareBytes x.s.data.toList y.s.data.toList ≠ 0 then Lib.compareBytes x.s.data.toList y.s.data.toList else cmpL x.l y.l

def sameV (x y : Val) : Bool := decide (x.k = y.k) && decide (x.n = y.n) && decide (x.s = y.s) && decide (x.l = y.l)

set_option maxHeartbeats 400000 in
theorem compare_any (x y : Val) (A B : Option Addr) (c d B1 B2 : Nat) (w : World) (hn : x.l.length ≤ maxLen) (hm : y.l.length ≤ maxLen)
    (hx : Reads w B1 1 A x.l.length (numV .i64 x.l)) (hy : Reads w B2 1 B y.l.length (numV .i64 y.l)) (hB1 : B1 ≤ w.heap.size) (hB2 : B2 ≤ w.heap.size) :
    Calls Try.prog 9 #[.agg #[.int .i64 x.k, .int .i64 x.n, .string x.s, .slice A x.l.length c], .agg #[.int .i64 y.k, .int .i64 y.n, .string y.s, .slice B y.l.length d]] w
      fun e w' => e = .returned (.int .i64 (cmpV x y)) ∧ Below w.heap.size w w' := by
  by_cases h1 : ordI x.k y.k = 0
  · have b1 : (ordI x.k y.k != 0) = false := by simp [h1]
    have H1 := Lib.hid h1
    clear h1
    by_cases h2 : ordI x.n y.n = 0
    · have b2 : (ordI x.n y.n != 0) = false := by simp [h2]
      have H2 := Lib.hid h2
      clear h2
      by_cases h3 : Lib.compareBytes x.s.data.toList y.s.data.toList = 0
      · have b3 : (Lib.compareBytes x.s.data.toList y.s.data.toList != 0) = false := by simp [h3]
        have HR := Lib.hid (show cmpV x y = cmpL x.l y.l by simp [cmpV, H1.out, H2.out, h3])
        clear h3
        go_enter Try.func9, Try.ntmps9
        go_wp2_with (first
          | (go_at_call 28; refine (order_any _ _ _).mono ?_; rintro e w' ⟨rfl, rfl⟩)
          | (go_at_call 29; refine (Try.strings_Compare _ _ _).mono ?_; rintro e w' ⟨rfl, rfl⟩))
        refine (compareInts_any _ _ _ _ _ _ B1 B2 _ _ _ hn hm ((hx.alloc (by omega) _).alloc (by simp; omega) _) ((hy.alloc (by omega) _).alloc (by simp; omega) _) (by simp; omega) (by simp; omega)).mono ?_
        rintro e w1 ⟨rfl, hb⟩
        go_wp2
        go_ret
        exact ⟨ret_int (by rw [HR.out]), (((Below.refl _ _).alloc (Nat.le_refl _) _).alloc (by simp) _).trans (hb.mono (by simp; omega))⟩
      · have b3 : (Lib.compareBytes x.s.data.toList y.s.data.toList != 0) = true := by simp [h3]
        have HR := Lib.hid (show cmpV x y = Lib.compareBytes x.s.data.toList y.s.data.toList by simp [cmpV, H1.out, H2.out, h3])
        clear h3
        go_enter Try.func9, Try.ntmps9
        go_wp2_with (first
          | (go_at_call 28; refine (order_any _ _ _).mono ?_; rintro e w' ⟨rfl, rfl⟩)
          | (go_at_call 29; refine (Try.strings_Compare _ _ _).mono ?_; rintro e w' ⟨rfl, rfl⟩))
        go_ret
        exact ⟨ret_int (by rw [HR.out]), (((Below.refl _ _).alloc (Nat.le_refl _) _).alloc (by simp) _)⟩
    · have b2 : (ordI x.n y.n != 0) = true := by simp [h2]
      have HR := Lib.hid (show cmpV x y = ordI x.n y.n by simp [cmpV, H1.out, h2])
      clear h2
      go_enter Try.func9, Try.ntmps9
      go_wp2_with (go_at_call 28; refine (order_any _ _ _).mono ?_; rintro e w' ⟨rfl, rfl⟩)
      go_ret
      exact ⟨ret_int (by rw [HR.out]), (((Below.refl _ _).alloc (Nat.le_refl _) _).alloc (by simp) _)⟩
  · have b1 : (ordI x.k y.k != 0) = true := by simp [h1]
    have HR := Lib.hid (show cmpV x y = ordI x.k y.k by simp [cmpV, h1])
    clear h1
    go_enter Try.func9, Try.ntmps9
    go_wp2_with (go_at_call 28; refine (order_any _ _ _).mono ?_; rintro e w' ⟨rfl, rfl⟩)
    go_ret
    exact ⟨ret_int (by rw [HR.out]), (((Below.refl _ _).alloc (Nat.le_refl _) _).alloc (by simp) _)⟩
set_option maxHeartbeats 400000 in
theorem rcompare_any (x y : Val) (A B : Option Addr) (c d B1 B2 : Nat) (w : World) (hn : x.l.length ≤ maxLen) (hm : y.l.length ≤ maxLen)
    (hx : Reads w B1 1 A x.l.length (numV .i64 x.l)) (hy : Reads w B2 1 B y.l.length (numV .i64 y.l)) (hB1 : B1 ≤ w.heap.size) (hB2 : B2 ≤ w.heap.size) :
    Calls Try.prog 27 #[.agg #[.int .i64 x.k, .int .i64 x.n, .string x.s, .slice A x.l.length c], .agg #[.int .i64 y.k, .int .i64 y.n, .string y.s, .slice B y.l.length d]] w
      fun e w' => e = .returned (.int .i64 (cmpV x y)) ∧ Below w.heap.size w w' := by
  by_cases h1 : ordI x.k y.k = 0
  · have b1 : (ordI x.k y.k != 0) = false := by simp [h1]
    have H1 := Lib.hid h1
    clear h1
    by_cases h2 : ordI x.n y.n = 0
    · have b2 : (ordI x.n y.n != 0) = false := by simp [h2]
      have H2 := Lib.hid h2
      clear h2
      by_cases h3 : Lib.compareBytes x.s.data.toList y.s.data.toList = 0
      · have b3 : (Lib.compareBytes x.s.data.toList y.s.data.toList != 0) = false := by simp [h3]
        have HR := Lib.hid (show cmpV x y = cmpL x.l y.l by simp [cmpV, H1.out, H2.out, h3])
        clear h3
        go_enter Try.func27, Try.ntmps27
        go_wp2_with (first
          | (go_at_call 44; refine (sign_any _ _ _).mono ?_; rintro e w' ⟨rfl, rfl⟩)
          | (go_at_call 29; refine (Try.strings_Compare _ _ _).mono ?_; rintro e w' ⟨rfl, rfl⟩))
        refine (lists_any _ _ _ _ _ _ B1 B2 _ _ _ hn hm ((hx.alloc (by omega) _).alloc (by simp; omega) _) ((hy.alloc (by omega) _).alloc (by simp; omega) _) (by simp; omega) (by simp; omega)).mono ?_
        rintro e w1 ⟨rfl, hb⟩
        go_wp2
        go_ret
        exact ⟨ret_int (by rw [HR.out]), (((Below.refl _ _).alloc (Nat.le_refl _) _).alloc (by simp) _).trans (hb.mono (by simp; omega))⟩
      · have b3 : (Lib.compareBytes x.s.data.toList y.s.data.toList != 0) = true := by simp [h3]
        have HR := Lib.hid (show cmpV x y = Lib.compareBytes x.s.data.toList y.s.data.toList by simp [cmpV, H1.out, H2.out, h3])
        clear h3
        go_enter Try.func27, Try.ntmps27
        go_wp2_with (first
          | (go_at_call 44; refine (sign_any _ _ _).mono ?_; rintro e w' ⟨rfl, rfl⟩)
          | (go_at_call 29; refine (Try.strings_Compare _ _ _).mono ?_; rintro e w' ⟨rfl, rfl⟩))
        go_ret
        exact ⟨ret_int (by rw [HR.out]), (((Below.refl _ _).alloc (Nat.le_refl _) _).alloc (by simp) _)⟩
    · have b2 : (ordI x.n y.n != 0) = true := by simp [h2]
      have HR := Lib.hid (show cmpV x y = ordI x.n y.n by simp [cmpV, H1.out, h2])
      clear h2
      go_enter Try.func27, Try.ntmps27
      go_wp2_with (go_at_call 44; refine (sign_any _ _ _).mono ?_; rintro e w' ⟨rfl, rfl⟩)
      go_ret
      exact ⟨ret_int (by rw [HR.out]), (((Below.refl _ _).alloc (Nat.le_refl _) _).alloc (by simp) _)⟩
  · have b1 : (ordI x.k y.k != 0) = true := by simp [h1]
    have HR := Lib.hid (show cmpV x y = ordI x.k y.k by simp [cmpV, h1])
    clear h1
    go_enter Try.func27, Try.ntmps27
    go_wp2_with (go_at_call 44; refine (sign_any _ _ _).mono ?_; rintro e w' ⟨rfl, rfl⟩)
    go_ret
    exact ⟨ret_int (by rw [HR.out]), (((Below.refl _ _).alloc (Nat.le_refl _) _).alloc (by simp) _)⟩

end Go.Proofs.Ytfkgodgjchbbpaa
