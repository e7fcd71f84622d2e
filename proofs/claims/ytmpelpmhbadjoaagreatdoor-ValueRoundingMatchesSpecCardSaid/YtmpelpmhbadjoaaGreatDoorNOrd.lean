/- The walk of 'order': -1, 0, 1 as two ints compare; how lists of numbers stand in memory. No condition. -/
import Derived.Test.YtmpelpmhbadjoaaGreatDoorBase
namespace Go.Proofs.YtmpelpmhbadjoaaGreatDoor
open Go.RowKit

def ordI (a b : Int) : Int := if a < b then -1 else if b < a then 1 else 0
theorem order_any (a b : Int) (w : World) :
    Calls Tryz.prog 87 #[.int .i64 a, .int .i64 b] w fun e w' => e = .returned (.int .i64 (ordI a b)) ∧ w = w' := by
  go_enter Tryz.func87, Tryz.ntmps87
  go_wp2
  all_goals (go_ret; exact ⟨ret_int (by simp [ordI, *] <;> omega), rfl⟩)
end Go.Proofs.YtmpelpmhbadjoaaGreatDoor
