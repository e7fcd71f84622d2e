/- The walks of 'compareInts' and 'Lists': lists of ints by the first elements that differ. No condition. -/
import Derived.Test.YtfkgodgjchbbpaaOrd
namespace Go.Proofs.Ytfkgodgjchbbpaa
open Go.RowKit

def cmpL : List Int → List Int → Int
  | [], [] => 0
  | [], _ :: _ => -1
  | _ :: _, [] => 1
  | a :: l, b :: r => if ordI a b = 0 then cmpL l r else ordI a b

def numV (k : IntKind) (l : List Int) : List Value := l.map (Value.int k)
theorem numV_get (κ : IntKind) (l : List Int) (k : Nat) (u : Value) (h : (numV κ l)[k]? = some u) : ∃ h : k < l.length, u = .int κ l[k] := by
  unfold numV at h
  rw [List.getElem?_map] at h
  rcases hk : l[k]? with _ | x
  · rw [hk] at h; simp at h
  · rw [hk] at h
    simp at h
    obtain ⟨hl, hx⟩ := List.getElem?_eq_some_iff.1 hk
    exact ⟨hl, by rw [hx, h]⟩
theorem numV_len (κ : IntKind) (l : List Int) : (numV κ l).length = l.length := by simp [numV]

theorem cmpL_drop {xs ys : List Int} {k : Nat} (h1 : k < xs.length) (h2 : k < ys.length) (h : ordI xs[k] ys[k] = 0) : cmpL (xs.drop k) (ys.drop k) = cmpL (xs.drop (k + 1)) (ys.drop (k + 1)) := by
  rw [List.drop_eq_getElem_cons h1, List.drop_eq_getElem_cons h2]
  simp [cmpL, h]
theorem cmpL_stop {xs ys : List Int} {k : Nat} (h1 : k < xs.length) (h2 : k < ys.length) (h : ordI xs[k] ys[k] ≠ 0) : cmpL (xs.drop k) (ys.drop k) = ordI xs[k] ys[k] := by
  rw [List.drop_eq_getElem_cons h1, List.drop_eq_getElem_cons h2]
  simp [cmpL, h]
theorem cmpL_nil_left (l : List Int) (h : 0 < l.length) : cmpL [] l = -1 := by cases l <;> simp_all [cmpL]
theorem cmpL_nil_right (l : List Int) (h : 0 < l.length) : cmpL l [] = 1 := by cases l <;> simp_all [cmpL]
theorem cmpL_end {xs ys : List Int} {k : Nat} (hk : k ≤ xs.length) (hk' : k ≤ ys.length) (h : ¬ (k < xs.length ∧ k < ys.length)) : cmpL (xs.drop k) (ys.drop k) = ordI xs.length ys.length := by
  by_cases h1 : k < xs.length
  · rw [show ys.drop k = [] from List.drop_eq_nil_of_le (by omega), cmpL_nil_right _ (by simp; omega)]
    simp only [ordI]
    rw [if_neg (by omega), if_pos (by omega)]
  · rw [show xs.drop k = [] from List.drop_eq_nil_of_le (by omega)]
    by_cases h2 : k < ys.length
    · rw [cmpL_nil_left _ (by simp; omega)]
      simp only [ordI]
      rw [if_pos (by omega)]
    · rw [show ys.drop k = [] from List.drop_eq_nil_of_le (by omega)]
      simp only [ordI, cmpL]
      rw [if_neg (by omega), if_neg (by omega)]

set_option maxHeartbeats 400000 in
theorem compareInts_any (A B : Option Addr) (n c m d B1 B2 : Nat) (xs ys : List Int) (w : World) (hn : n ≤ maxLen) (hm : m ≤ maxLen)
    (hx0 : Reads w B1 1 A n (numV .i64 xs)) (hy0 : Reads w B2 1 B m (numV .i64 ys)) (hB1 : B1 ≤ w.heap.size) (hB2 : B2 ≤ w.heap.size) :
    Calls Try.prog 30 #[.slice A n c, .slice B m d] w fun e w' => e = .returned (.int .i64 (cmpL xs ys)) ∧ Below w.heap.size w w' := by
  have hx := hx0.more hB1
  have hy := hy0.more hB2
  clear hx0 hy0 hB1 hB2
  have hxl : n = xs.length := by have := hx.1; rw [numV_len] at this; omega
  have hyl : m = ys.length := by have := hy.1; rw [numV_len] at this; omega
  subst hxl hyl
  unfold maxLen at hn hm
  go_enter Try.func30, Try.ntmps30
  go_wp2
  go_loopw [5] (fun i wr => ∃ k : Nat, k ≤ xs.length ∧ k ≤ ys.length ∧ i = .int .i64 k ∧ Below w.heap.size w wr ∧ cmpL xs ys = cmpL (xs.drop k) (ys.drop k)) (fun i _ => xs.length - (intOf i).toNat)
  case atStart => exact ⟨0, Nat.zero_le _, Nat.zero_le _, rfl, Below.refl _ _, rfl⟩
  case round =>
    obtain ⟨k, hk1, hk2, rfl, hb, hc⟩ := hrel
    have HC := Lib.hid hc
    clear hc
    by_cases hlt : k < xs.length ∧ k < ys.length
    · obtain ⟨h1, h2⟩ := hlt
      obtain ⟨ax, u, rfl, _, hu, hcx⟩ := (hx.below hb).at_ h1
      obtain ⟨ay, v, rfl, _, hv, hcy⟩ := (hy.below hb).at_ h2
      obtain ⟨_, rfl⟩ := numV_get _ _ _ _ hu
      obtain ⟨_, rfl⟩ := numV_get _ _ _ _ hv
      clear hu hv hx hy
      by_cases hz : ordI xs[k] ys[k] = 0
      · have hs := cmpL_drop h1 h2 hz
        have hz1 : (ordI xs[k] ys[k] != 0) = false := by simp [hz]
        have HS := Lib.hid hs
        have HZ := Lib.hid hz1
        clear hs hz hz1
        go_wp2
        go_quiet ((go_at_call 28; exact Calls.quiet_of_same (order_any' _ _ _)))
        have hz1 := HZ.out
        go_wp2
        go_roundw
        case rel => exact ⟨k + 1, by omega, by omega, by go_num, hb.drewN _, by rw [HC.out, HS.out]⟩
        case measure => simp [intOf]; omega
      · have hs := cmpL_stop h1 h2 hz
        have hz1 : (ordI xs[k] ys[k] != 0) = true := by simp [hz]
        have HS := Lib.hid hs
        have HZ := Lib.hid hz1
        clear hs hz hz1
        go_wp2
        go_quiet ((go_at_call 28; exact Calls.quiet_of_same (order_any' _ _ _)))
        have hz1 := HZ.out
        go_wp2
        go_ret
        exact ⟨ret_int (by rw [HC.out, HS.out]), hb.drewN _⟩
    · have he := cmpL_end hk1 hk2 hlt
      have HE := Lib.hid he
      clear he
      have hlt' : k < xs.length → ¬ k < ys.length := fun h h' => hlt ⟨h, h'⟩
      clear hlt
      by_cases h1 : k < xs.length
      · have h2 := hlt' h1
        clear hlt'
        go_wp2_with (go_at_call 28; refine (order_any _ _ _).mono ?_; rintro e w' ⟨rfl, rfl⟩)
        go_ret
        exact ⟨ret_int (by rw [HC.out, HE.out]), hb⟩
      · clear hlt'
        go_wp2_with (go_at_call 28; refine (order_any _ _ _).mono ?_; rintro e w' ⟨rfl, rfl⟩)
        go_ret
        exact ⟨ret_int (by rw [HC.out, HE.out]), hb⟩

set_option maxHeartbeats 400000 in
theorem lists_any (A B : Option Addr) (n c m d B1 B2 : Nat) (xs ys : List Int) (w : World) (hn : n ≤ maxLen) (hm : m ≤ maxLen)
    (hx0 : Reads w B1 1 A n (numV .i64 xs)) (hy0 : Reads w B2 1 B m (numV .i64 ys)) (hB1 : B1 ≤ w.heap.size) (hB2 : B2 ≤ w.heap.size) :
    Calls Try.prog 45 #[.slice A n c, .slice B m d] w fun e w' => e = .returned (.int .i64 (cmpL xs ys)) ∧ Below w.heap.size w w' := by
  have hx := hx0.more hB1
  have hy := hy0.more hB2
  clear hx0 hy0 hB1 hB2
  have hxl : n = xs.length := by have := hx.1; rw [numV_len] at this; omega
  have hyl : m = ys.length := by have := hy.1; rw [numV_len] at this; omega
  subst hxl hyl
  unfold maxLen at hn hm
  go_enter Try.func45, Try.ntmps45
  go_wp2
  go_loopw [5] (fun i wr => ∃ k : Nat, k ≤ xs.length ∧ k ≤ ys.length ∧ i = .int .i64 k ∧ Below w.heap.size w wr ∧ cmpL xs ys = cmpL (xs.drop k) (ys.drop k)) (fun i _ => xs.length - (intOf i).toNat)
  case atStart => exact ⟨0, Nat.zero_le _, Nat.zero_le _, rfl, Below.refl _ _, rfl⟩
  case round =>
    obtain ⟨k, hk1, hk2, rfl, hb, hc⟩ := hrel
    have HC := Lib.hid hc
    clear hc
    by_cases hlt : k < xs.length ∧ k < ys.length
    · obtain ⟨h1, h2⟩ := hlt
      obtain ⟨ax, u, rfl, _, hu, hcx⟩ := (hx.below hb).at_ h1
      obtain ⟨ay, v, rfl, _, hv, hcy⟩ := (hy.below hb).at_ h2
      obtain ⟨_, rfl⟩ := numV_get _ _ _ _ hu
      obtain ⟨_, rfl⟩ := numV_get _ _ _ _ hv
      clear hu hv hx hy
      by_cases hz : ordI xs[k] ys[k] = 0
      · have hs := cmpL_drop h1 h2 hz
        have hz1 : (ordI xs[k] ys[k] != 0) = false := by simp [hz]
        have HS := Lib.hid hs
        have HZ := Lib.hid hz1
        clear hs hz hz1
        go_wp2
        go_quiet ((go_at_call 44; exact Calls.quiet_of_same (sign_any' _ _ _)))
        have hz1 := HZ.out
        go_wp2
        go_roundw
        case rel => exact ⟨k + 1, by omega, by omega, by go_num, hb.drewN _, by rw [HC.out, HS.out]⟩
        case measure => simp [intOf]; omega
      · have hs := cmpL_stop h1 h2 hz
        have hz1 : (ordI xs[k] ys[k] != 0) = true := by simp [hz]
        have HS := Lib.hid hs
        have HZ := Lib.hid hz1
        clear hs hz hz1
        go_wp2
        go_quiet ((go_at_call 44; exact Calls.quiet_of_same (sign_any' _ _ _)))
        have hz1 := HZ.out
        go_wp2
        go_ret
        exact ⟨ret_int (by rw [HC.out, HS.out]), hb.drewN _⟩
    · have he := cmpL_end hk1 hk2 hlt
      have HE := Lib.hid he
      clear he
      have hlt' : k < xs.length → ¬ k < ys.length := fun h h' => hlt ⟨h, h'⟩
      clear hlt
      by_cases h1 : k < xs.length
      · have h2 := hlt' h1
        clear hlt'
        go_wp2_with (go_at_call 44; refine (sign_any _ _ _).mono ?_; rintro e w' ⟨rfl, rfl⟩)
        go_ret
        exact ⟨ret_int (by rw [HC.out, HE.out]), hb⟩
      · clear hlt'
        go_wp2_with (go_at_call 44; refine (sign_any _ _ _).mono ?_; rintro e w' ⟨rfl, rfl⟩)
        go_ret
        exact ⟨ret_int (by rw [HC.out, HE.out]), hb⟩
end Go.Proofs.Ytfkgodgjchbbpaa
