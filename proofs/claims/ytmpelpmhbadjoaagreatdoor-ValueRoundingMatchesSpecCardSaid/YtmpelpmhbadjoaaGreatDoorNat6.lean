/- The walks of the naturals: tooMuch; the plain law of a guess. -/
import Derived.Test.YtmpelpmhbadjoaaGreatDoorNat5
namespace Go.Proofs.YtmpelpmhbadjoaaGreatDoor
open Go.RowKit Limb

theorem getD_at {l : List Nat} {k : Nat} (h : k < l.length) : l.getD k 0 = l[k] := by simp [List.getD, h]
def tooMuchB (top guess x1 x2 next : Nat) : Bool := decide (top - guess * x1 < 1000000000) && decide ((top - guess * x1) * 1000000000 + next < guess * x2)
set_option maxRecDepth 100000 in
set_option maxHeartbeats 1000000 in
theorem tooMuch_any (A2 : Option Addr) (v : List Nat) (c2 top guess next x1 x2 : Nat) (w : World) (hn : 2 ≤ v.length) (hlv : v.length ≤ 1000000) (h1 : v.getD (v.length - 1) 0 = x1) (h2 : v.getD (v.length - 2) 0 = x2) (hv : Small v) (ht : top < 1000000000000000000) (hg : guess < 1000000000) (hle : guess * x1 ≤ top) (hx : next < 1000000000) (hrv : Reads w w.heap.size 1 A2 v.length (limV v)) :
    Calls Tryz.prog 104 #[.int .u64 (top : Int), .int .u64 (guess : Int), .slice A2 v.length c2, .int .u64 (next : Int)] w fun e w' => e = .returned (.bool (tooMuchB top guess x1 x2 next)) ∧ w = w' := by
  have hx1 : x1 < 1000000000 := by rw [← h1]; exact getD_small hv _
  have hx2 : x2 < 1000000000 := by rw [← h2]; exact getD_small hv _
  obtain ⟨ad, rfl, hc1⟩ := hrv.limb (k := v.length - 1) (by omega)
  obtain ⟨ad', e, hc2⟩ := hrv.limb (k := v.length - 2) (by omega)
  obtain rfl : ad = ad' := by injection e
  clear e
  rw [← getD_at, h1] at hc1
  rw [← getD_at, h2] at hc2
  clear h1 h2 hrv
  have m1 := mul_le9 hg hx1
  have m2 := mul_le9 hg hx2
  have p1 : 0 ≤ (guess : Int) * (x1 : Int) := Int.mul_nonneg (by omega) (by omega)
  have p2 : 0 ≤ (guess : Int) * (x2 : Int) := Int.mul_nonneg (by omega) (by omega)
  have hle' : (guess : Int) * (x1 : Int) ≤ (top : Int) := by exact_mod_cast hle
  have HS := Lib.hid (show ((top - guess * x1 : Nat) : Int) = (top : Int) - (guess : Int) * (x1 : Int) by rw [Int.ofNat_sub hle]; simp)
  have HT := Lib.hid (show ((guess * x2 : Nat) : Int) = (guess : Int) * (x2 : Int) by simp)
  clear hle
  go_enter Tryz.func104, Tryz.ntmps104
  by_cases b1 : (top : Int) - (guess : Int) * (x1 : Int) < 1000000000
  · by_cases b2 : ((top : Int) - (guess : Int) * (x1 : Int)) * 1000000000 + (next : Int) < (guess : Int) * (x2 : Int)
    · go_wp2
      go_ret
      refine ⟨ret_bool ?_, rfl⟩
      have := HS.out
      have := HT.out
      simp only [tooMuchB]
      rw [decide_eq_true (by omega), decide_eq_true (by omega)]
      rfl
    · go_wp2
      go_ret
      refine ⟨ret_bool ?_, rfl⟩
      have := HS.out
      have := HT.out
      simp only [tooMuchB]
      rw [decide_eq_true (by omega), decide_eq_false (by omega)]
      rfl
  · go_wp2
    go_ret
    refine ⟨ret_bool ?_, rfl⟩
    have := HS.out
    simp only [tooMuchB]
    rw [decide_eq_false (by omega)]
    rfl
end Go.Proofs.YtmpelpmhbadjoaaGreatDoor
