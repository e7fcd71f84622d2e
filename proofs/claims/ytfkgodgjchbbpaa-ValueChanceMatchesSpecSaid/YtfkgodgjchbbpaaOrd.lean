/- The walks of 'order' and 'sign': -1, 0, 1 as two ints compare. No condition. -/
import Derived.Test.YtfkgodgjchbbpaaBase
namespace Go.Proofs.Ytfkgodgjchbbpaa
open Go.RowKit

def ordI (a b : Int) : Int := if a < b then -1 else if b < a then 1 else 0

theorem order_any (a b : Int) (w : World) :
    Calls Try.prog 28 #[.int .i64 a, .int .i64 b] w fun e w' => e = .returned (.int .i64 (ordI a b)) ∧ w = w' := by
  go_enter Try.func28, Try.ntmps28
  go_wp2
  all_goals (go_ret; exact ⟨ret_int (by simp [ordI, *] <;> omega), rfl⟩)
theorem sign_any (a b : Int) (w : World) :
    Calls Try.prog 44 #[.int .i64 a, .int .i64 b] w fun e w' => e = .returned (.int .i64 (ordI a b)) ∧ w = w' := by
  go_enter Try.func44, Try.ntmps44
  go_wp2
  all_goals (go_ret; exact ⟨ret_int (by simp [ordI, *] <;> omega), rfl⟩)
theorem order_any' (a b : Int) (w : World) :
    Calls Try.prog 28 #[.int .i64 a, .int .i64 b] w fun e w' => e = .returned (.int .i64 (ordI a b)) ∧ w' = w := (order_any a b w).mono fun _ _ ⟨h1, h2⟩ => ⟨h1, h2.symm⟩
theorem sign_any' (a b : Int) (w : World) :
    Calls Try.prog 44 #[.int .i64 a, .int .i64 b] w fun e w' => e = .returned (.int .i64 (ordI a b)) ∧ w' = w := (sign_any a b w).mono fun _ _ ⟨h1, h2⟩ => ⟨h1, h2.symm⟩
end Go.Proofs.Ytfkgodgjchbbpaa
