/- The walks of the naturals: compare. -/
import Derived.Test.YtmpelpmhbadjoaaGreatDoorNat2
import Derived.BigQuiet
namespace Go.Proofs.YtmpelpmhbadjoaaGreatDoor
open Go.RowKit Limb

theorem ordI_lt {a b : Int} (h : a < b) : ordI a b = -1 := by simp [ordI, h]
theorem ordI_gt {a b : Int} (h : b < a) : ordI a b = 1 := by simp [ordI, h]; omega
theorem ordI_eq {a : Int} : ordI a a = 0 := by simp [ordI]
theorem drop_top {a b : List Nat} {i : Nat} (ha : i < a.length) (hb : i < b.length) (hd : a.drop (i + 1) = b.drop (i + 1)) (he : a[i] = b[i]) : a.drop i = b.drop i := by
  rw [List.drop_eq_getElem_cons ha, List.drop_eq_getElem_cons hb, hd, he]
set_option maxRecDepth 100000 in
set_option maxHeartbeats 1000000 in
theorem compareL_any (A1 A2 : Option Addr) (a b : List Nat) (c1 c2 : Nat) (w : World) (ha : Small a) (hb : Small b) (hta : Top a) (htb : Top b) (hla : a.length ≤ maxLen) (_hlb : b.length ≤ maxLen) (hra : Reads w w.heap.size 1 A1 a.length (limV a)) (hrb : Reads w w.heap.size 1 A2 b.length (limV b)) :
    Calls Tryz.prog 65 #[.slice A1 a.length c1, .slice A2 b.length c2] w fun e w' => e = .returned (.int .i64 (ordI (val a) (val b))) ∧ Below w.heap.size w w' := by
  unfold maxLen at hla _hlb
  have HTA := Lib.hid hta
  have HTB := Lib.hid htb
  clear hta htb
  go_enter Tryz.func65, Tryz.ntmps65
  go_wp2_with fail
  refine (order_any _ _ _).mono ?_
  rintro e w1 ⟨rfl, rfl⟩
  by_cases hl : (a.length : Int) < b.length
  · have HR := Lib.hid (lt_of_len ha HTB.out (show a.length < b.length by omega))
    rw [ordI_lt hl]
    go_wp2
    go_ret
    exact ⟨ret_int (by rw [ordI_lt (by have := HR.out; omega)]), Below.refl _ _⟩
  by_cases hg : (b.length : Int) < a.length
  · have HR := Lib.hid (lt_of_len hb HTA.out (show b.length < a.length by omega))
    rw [ordI_gt hg]
    go_wp2
    go_ret
    exact ⟨ret_int (by rw [ordI_gt (by have := HR.out; omega)]), Below.refl _ _⟩
  have hab : b.length = a.length := by omega
  have HAB := Lib.hid hab
  rw [show (b.length : Int) = a.length from by omega, ordI_eq]
  clear hl hg hab
  go_wp2
  go_loopw [6] (fun s wr => ∃ m : Nat, m ≤ a.length ∧ s = .int .i64 ((m : Int) - 1) ∧ a.drop m = b.drop m ∧ Below w.heap.size w wr) (fun s _ => (intOf s + 1).toNat)
  case atStart => exact ⟨a.length, Nat.le_refl _, rfl, by rw [List.drop_of_length_le (Nat.le_refl _), List.drop_of_length_le (by rw [HAB.out]; exact Nat.le_refl _)], Below.refl _ _⟩
  case round =>
    obtain ⟨m, hm, rfl, hd, hbr⟩ := hrel
    have HD := Lib.hid hd
    clear hd
    by_cases h0 : 0 < m
    · obtain ⟨i, rfl⟩ : ∃ i, m = i + 1 := ⟨m - 1, by omega⟩
      have hia : i < a.length := by omega
      have hib : i < b.length := by have := HAB.out; omega
      have ec : ((i + 1 : Nat) : Int) - 1 = (i : Int) := by omega
      rw [ec]
      obtain ⟨ad, rfl, hca⟩ := (hra.below hbr).limb hia
      obtain ⟨bd, rfl, hcb⟩ := (hrb.below hbr).limb hib
      have HX := Lib.hid (show ∃ x y : Nat, a[i] = x ∧ b[i] = y from ⟨_, _, rfl, rfl⟩)
      obtain ⟨x, y, hx, hy⟩ := HX.out
      clear HX
      have hx1 : x < 1000000000 := by rw [← hx]; exact ha.at_ hia
      have hy1 : y < 1000000000 := by rw [← hy]; exact hb.at_ hib
      rw [hx] at hca
      rw [hy] at hcb
      have HXE := Lib.hid hx
      have HYE := Lib.hid hy
      clear hx hy
      by_cases hlt : (x : Int) < (y : Int)
      · have HR := Lib.hid (lt_at ha hia hib HD.out (by rw [HXE.out, HYE.out]; omega))
        go_wp2
        go_quiet (fail)
        go_wp2
        go_ret
        exact ⟨ret_int (by rw [ordI_lt (by have := HR.out; omega)]), hbr.drewN _⟩
      · by_cases hgt : (y : Int) < (x : Int)
        · have HR := Lib.hid (lt_at hb hib hia HD.out.symm (by rw [HXE.out, HYE.out]; omega))
          go_wp2
          go_quiet (fail)
          go_wp2
          go_quiet (fail)
          go_wp2
          go_ret
          exact ⟨ret_int (by rw [ordI_gt (by have := HR.out; omega)]), (hbr.drewN _).drewN _⟩
        · have HN := Lib.hid (drop_top hia hib HD.out (by rw [HXE.out, HYE.out]; omega))
          go_wp2
          go_quiet (fail)
          go_wp2
          go_quiet (fail)
          go_wp2
          go_roundw
          case rel => exact ⟨i, by omega, by go_num, HN.out, hbr.drewN _⟩
          case measure => simp [intOf]
    · obtain rfl : m = 0 := by omega
      have HE := Lib.hid (show a = b by simpa using HD.out)
      go_wp2
      go_ret
      exact ⟨ret_int (by rw [HE.out, ordI_eq]), hbr⟩
end Go.Proofs.YtmpelpmhbadjoaaGreatDoor
