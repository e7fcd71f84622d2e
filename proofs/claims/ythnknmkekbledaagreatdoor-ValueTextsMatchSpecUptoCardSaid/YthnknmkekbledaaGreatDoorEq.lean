/- The walks of 'slices.Equal' at []int and []uint64. No condition. -/
import Derived.Test.YthnknmkekbledaaGreatDoorV0
namespace Go.Proofs.YthnknmkekbledaaGreatDoor
open Go.RowKit

theorem take_ne {xs ys : List Int} {k : Nat} (h1 : k < xs.length) (h2 : k < ys.length) (h : xs[k] ≠ ys[k]) : decide (xs = ys) = false := by
  rw [decide_eq_false_iff_not]
  rintro rfl
  exact h rfl
theorem take_eq {xs ys : List Int} {k : Nat} (h1 : k < xs.length) (h2 : k < ys.length) (h : xs[k] = ys[k]) (ht : xs.take k = ys.take k) : xs.take (k + 1) = ys.take (k + 1) := by
  rw [List.take_succ_eq_append_getElem h1, List.take_succ_eq_append_getElem h2, h, ht]
theorem take_all {xs ys : List Int} {k : Nat} (h1 : xs.length ≤ k) (h2 : ys.length = xs.length) (ht : xs.take k = ys.take k) : decide (xs = ys) = true := by
  rw [List.take_of_length_le h1, List.take_of_length_le (by omega)] at ht
  simpa using ht

set_option maxHeartbeats 400000 in
theorem equalInt_any (A B : Option Addr) (n c m d B1 B2 : Nat) (xs ys : List Int) (w : World) (hn : n ≤ maxLen) (hm : m ≤ maxLen)
    (hx0 : Reads w B1 1 A n (numV .i64 xs)) (hy0 : Reads w B2 1 B m (numV .i64 ys)) (hB1 : B1 ≤ w.heap.size) (hB2 : B2 ≤ w.heap.size) :
    Calls Tryz.prog 21 #[.slice A n c, .slice B m d] w fun e w' => e = .returned (.bool (decide (xs = ys))) ∧ Below w.heap.size w w' := by
  have hx := hx0.more hB1
  have hy := hy0.more hB2
  clear hx0 hy0 hB1 hB2
  have hxl : n = xs.length := by have := hx.1; rw [numV_len] at this; omega
  have hyl : m = ys.length := by have := hy.1; rw [numV_len] at this; omega
  subst hxl hyl
  unfold maxLen at hn hm
  by_cases hl : xs.length = ys.length
  · have hl0 : ((xs.length : Int) != (ys.length : Int)) = false := by simp [hl]
    have hl1 : xs.length ≤ ys.length := by omega
    have hl2 : ys.length ≤ xs.length := by omega
    clear hl
    go_enter Tryz.func21, Tryz.ntmps21
    go_wp2
    go_loopw [13, 5] (fun i _ wr => ∃ k : Nat, k ≤ xs.length ∧ i = .int .i64 k ∧ Below w.heap.size w wr ∧ xs.take k = ys.take k) (fun i _ _ => xs.length - (intOf i).toNat)
    case atStart => exact ⟨0, Nat.zero_le _, rfl, Below.refl _ _, rfl⟩
    case round =>
      obtain ⟨k, hk1, rfl, hb, hc⟩ := hrel
      have HC := Lib.hid hc
      clear hc hl0
      by_cases h1 : k < xs.length
      · have h2 : k < ys.length := by omega
        obtain ⟨ax, u, rfl, _, hu, hcx⟩ := (hx.below hb).at_ h1
        obtain ⟨ay, v, rfl, _, hv, hcy⟩ := (hy.below hb).at_ h2
        obtain ⟨_, rfl⟩ := numV_get _ _ _ _ hu
        obtain ⟨_, rfl⟩ := numV_get _ _ _ _ hv
        clear hu hv hx hy
        by_cases hz : xs[k] = ys[k]
        · have HS := Lib.hid (take_eq h1 h2 hz HC.out)
          have hz1 : (xs[k] != ys[k]) = false := by simp [hz]
          have HZ := Lib.hid hz1
          clear hz hz1
          go_wp2
          have hz1 := HZ.out
          go_quiet (fail)
          go_wp2
          go_roundw
          case rel => exact ⟨k + 1, by omega, by go_num, hb.drewN _, HS.out⟩
          case measure => simp [intOf]; omega
        · have HS := Lib.hid (take_ne h1 h2 hz)
          have hz1 : (xs[k] != ys[k]) = true := by simp [hz]
          have HZ := Lib.hid hz1
          clear hz hz1
          go_wp2
          have hz1 := HZ.out
          go_quiet (fail)
          go_wp2
          go_ret
          exact ⟨ret_bool (by rw [HS.out]), hb.drewN _⟩
      · have HS := Lib.hid (take_all (by omega) (by omega) HC.out)
        go_wp2
        go_ret
        exact ⟨ret_bool (by rw [HS.out]), hb⟩
  · have hl0 : ((xs.length : Int) != (ys.length : Int)) = true := by simp; omega
    have HS := Lib.hid (show decide (xs = ys) = false by rw [decide_eq_false_iff_not]; rintro rfl; exact hl rfl)
    clear hl
    go_enter Tryz.func21, Tryz.ntmps21
    go_wp2
    go_ret
    exact ⟨ret_bool (by rw [HS.out]), Below.refl _ _⟩
end Go.Proofs.YthnknmkekbledaaGreatDoor
