/- Division by limbs: the plain laws of a guess, of the taking away and of the giving back. -/
import Derived.Test.YtmpelpmhbadjoaaGreatDoorNat6
namespace Go.Proofs.YtmpelpmhbadjoaaGreatDoor
open Go.RowKit Limb

theorem guess_start {U V ul vl P next top x1 x2 : Nat} (hU : U = ul + P * (next + 1000000000 * top)) (hul : ul < P) (hV : V = vl + P * (x2 + 1000000000 * x1)) (hn : next < 1000000000) (hx1 : 0 < x1) (hq : U < 1000000000 * V) (hV0 : 0 < V) :
    U / V ≤ min (top / x1) 999999999 := by
  have hqv : U / V * V ≤ U := Nat.div_mul_le_self U V
  have hqB : U / V < 1000000000 := (Nat.div_lt_iff_lt_mul hV0).2 hq
  generalize U / V = q at hqv hqB
  refine Nat.le_min.2 ⟨?_, by omega⟩
  rw [Nat.le_div_iff_mul_le hx1]
  refine Classical.byContradiction fun hc => ?_
  have h1 : P * (1000000000 * (top + 1)) ≤ P * (1000000000 * (q * x1)) := Nat.mul_le_mul_left _ (Nat.mul_le_mul_left _ (by omega))
  have e1 : P * (1000000000 * (top + 1)) = P * (next + 1000000000 * top) + P * (1000000000 - next) := by rw [← Nat.mul_add]; congr 1; omega
  have e3 : P * 1 ≤ P * (1000000000 - next) := Nat.mul_le_mul_left _ (by omega)
  have e2 : q * V = q * vl + P * (q * x2) + P * (1000000000 * (q * x1)) := by
    rw [hV, Nat.mul_add, Nat.mul_add, Nat.mul_add, ← Nat.add_assoc]
    congr 1
    · congr 1; ac_rfl
    · ac_rfl
  omega
theorem guess_step {U V ul vl P next top x1 x2 g : Nat} (hU : U = ul + P * (next + 1000000000 * top)) (hul : ul < P) (hV : V = vl + P * (x2 + 1000000000 * x1)) (hV0 : 0 < V) (hg1 : g * x1 ≤ top) (hm : tooMuchB top g x1 x2 next = true) : U / V ≤ g - 1 ∧ (g - 1) * x1 ≤ top := by
  simp only [tooMuchB, Bool.and_eq_true, decide_eq_true_eq] at hm
  obtain ⟨_, h2⟩ := hm
  refine ⟨?_, Nat.le_trans (Nat.mul_le_mul_right _ (Nat.sub_le g 1)) hg1⟩
  have hlt : U / V < g := by
    rw [Nat.div_lt_iff_lt_mul hV0]
    have e1 : P * (next + 1000000000 * top + 1) ≤ P * (g * x2 + 1000000000 * (g * x1)) := Nat.mul_le_mul_left _ (by omega)
    rw [Nat.mul_add] at e1
    have e2 : g * V = g * vl + P * (g * x2 + 1000000000 * (g * x1)) := by
      rw [hV, Nat.mul_add]
      congr 1
      rw [show g * x2 + 1000000000 * (g * x1) = g * (x2 + 1000000000 * x1) by rw [Nat.mul_add]; congr 1; ac_rfl]
      ac_rfl
    omega
  omega
theorem guess_done {U V ul vl P next top x1 x2 g : Nat} (hU : U = ul + P * (next + 1000000000 * top)) (hV : V = vl + P * (x2 + 1000000000 * x1)) (hvl : vl < P) (hx1 : 0 < x1) (hx2 : x2 < 1000000000) (hV0 : 0 < V) (hgB : g < 1000000000) (hg1 : g * x1 ≤ top) (hm : g = 0 ∨ tooMuchB top g x1 x2 next = false) : g ≤ U / V + 1 := by
  rcases hm with rfl | hm
  · exact Nat.zero_le _
  have hm' : g * x2 ≤ (top - g * x1) * 1000000000 + next := by
    simp only [tooMuchB, Bool.and_eq_false_iff, decide_eq_false_iff_not] at hm
    rcases hm with h | h
    · have h3 : g * x2 ≤ 999999999 * 999999999 := Nat.mul_le_mul (by omega) (by omega)
      omega
    · omega
  have h4 : g - 1 ≤ U / V := by
    rw [Nat.le_div_iff_mul_le hV0, Nat.sub_mul]
    have e1 : P * (g * x2 + 1000000000 * (g * x1)) ≤ P * (next + 1000000000 * top) := Nat.mul_le_mul_left _ (by omega)
    have e2 : g * V = g * vl + P * (g * x2 + 1000000000 * (g * x1)) := by
      rw [hV, Nat.mul_add]
      congr 1
      rw [show g * x2 + 1000000000 * (g * x1) = g * (x2 + 1000000000 * x1) by rw [Nat.mul_add]; congr 1; ac_rfl]
      ac_rfl
    have e3 : g * vl ≤ 1000000000 * P := Nat.mul_le_mul (by omega) (by omega)
    have e4 : P * (1000000000 * 1) ≤ P * (1000000000 * x1) := Nat.mul_le_mul_left _ (Nat.mul_le_mul_left _ hx1)
    rw [Nat.mul_add] at hV
    omega
  omega
/-- the two highest limbs of a number -/
theorem val_top2 {l : List Nat} {n : Nat} (h : l.length = n + 2) : val l = val (l.take n) + 1000000000 ^ n * (l.getD n 0 + 1000000000 * l.getD (n + 1) 0) := by
  have e1 := val_take_getD l (n + 1)
  have e2 := val_take_getD l n
  rw [val_take_all (by omega)] at e1
  rw [e1, e2, pow_succ', Nat.mul_add, Nat.mul_assoc]
  omega
theorem val_top3 {l : List Nat} {n : Nat} (h : l.length = n + 3) : val l = val (l.take n) + 1000000000 ^ n * (l.getD n 0 + 1000000000 * (l.getD (n + 1) 0 + 1000000000 * l.getD (n + 2) 0)) := by
  have e0 := val_take_getD l (n + 2)
  have e1 := val_take_getD l (n + 1)
  have e2 := val_take_getD l n
  rw [val_take_all (by omega)] at e0
  rw [e0, e1, e2, pow_succ' (n + 1), pow_succ' n, Nat.mul_add, Nat.mul_add, Nat.mul_add]
  rw [Nat.mul_assoc, Nat.mul_assoc, Nat.mul_assoc, Nat.add_assoc, Nat.add_assoc]
theorem take_lt {l : List Nat} (h : Small l) {n : Nat} (hn : n ≤ l.length) : val (l.take n) < 1000000000 ^ n := by
  have := val_lt (h.take n)
  rwa [show (l.take n).length = n by simp; omega] at this

def SubInv (W v out : List Nat) (g i c : Nat) : Prop :=
  out.length = i ∧ Small out ∧ val out + g * val (v.take i) = val (W.take i) + 1000000000 ^ i * c ∧ c < 1000000000
/-- s: what is taken away with the borrow; y: the new limb -/
theorem SubInv.next {W v out : List Nat} {g i c : Nat} (h : SubInv W v out g i c) {s y c' : Nat} (hs : s = c + g * v.getD i 0) (hy : y < 1000000000) (hc : c' < 1000000000) (he : y + s = W.getD i 0 + 1000000000 * c') :
    SubInv W v (out ++ [y]) g (i + 1) c' := by
  obtain ⟨h1, h2, h3, h4⟩ := h
  refine ⟨by simp [h1], h2.snoc hy, ?_, hc⟩
  rw [val_snoc, h1, val_take_getD, val_take_getD, pow_succ', Nat.mul_add]
  have e : 1000000000 ^ i * (y + s) = 1000000000 ^ i * (W.getD i 0 + 1000000000 * c') := by rw [he]
  rw [Nat.mul_add, Nat.mul_add, hs, Nat.mul_add, ← Nat.mul_assoc _ _ c'] at e
  have e2 : g * (1000000000 ^ i * v.getD i 0) = 1000000000 ^ i * (g * v.getD i 0) := by ac_rfl
  omega
/-- the borrow stays below the base -/
theorem sub_carry {u s g x c : Nat} (hg : g < 1000000000) (hx : x < 1000000000) (hc : c < 1000000000) (hs : s = c + g * x) : s / 1000000000 < 1000000000 ∧ (u < s % 1000000000 → s / 1000000000 + 1 < 1000000000) := by
  have hm : g * x ≤ 999999999 * 999999999 := Nat.mul_le_mul (by omega) (by omega)
  omega
theorem SubInv.done {W v out : List Nat} {g n c q : Nat} (h : SubInv W v out g (n + 1) c) (hv : v.length = n) (hW : W.length = n + 1) (hq : q = val W / val v) (h1 : q ≤ g) (h2 : g ≤ q + 1) (hsv : Small v) (hV : 0 < val v) :
    (c = 0 → g = q ∧ val out = val W % val v) ∧ (c ≠ 0 → g = q + 1 ∧ c = 1 ∧ val out + val v = val W % val v + 1000000000 ^ (n + 1)) := by
  obtain ⟨e1, e2, e3, e4⟩ := h
  rw [val_take_all (by omega), val_take_all (by omega)] at e3
  have hl := val_lt e2
  rw [e1] at hl
  have hm := Nat.div_add_mod (val W) (val v)
  rw [← hq] at hm
  have hr := Nat.mod_lt (val W) hV
  have hvl := val_lt hsv
  rw [hv] at hvl
  have hpp := pow_mono (Nat.le_succ n)
  have : g = q ∨ g = q + 1 := by omega
  rw [Nat.mul_comm] at hm
  constructor
  · rintro rfl
    rcases this with rfl | rfl
    · exact ⟨rfl, by omega⟩
    · rw [Nat.add_mul] at e3
      omega
  · intro hc
    have hcp : 1000000000 ^ (n + 1) * 1 ≤ 1000000000 ^ (n + 1) * c := Nat.mul_le_mul_left _ (by omega)
    rcases this with rfl | rfl
    · omega
    · rw [Nat.add_mul] at e3
      refine ⟨rfl, ?_⟩
      have hc2 : c < 2 := by
        refine Classical.byContradiction fun hcc => ?_
        have : 1000000000 ^ (n + 1) * 2 ≤ 1000000000 ^ (n + 1) * c := Nat.mul_le_mul_left _ (by omega)
        omega
      obtain rfl : c = 1 := by omega
      exact ⟨rfl, by omega⟩
def AddInv (W v out : List Nat) (i c : Nat) : Prop :=
  out.length = i ∧ Small out ∧ val out + 1000000000 ^ i * c = val (W.take i) + val (v.take i) ∧ c ≤ 1
theorem AddInv.next {W v out : List Nat} {i c : Nat} (h : AddInv W v out i c) {s : Nat} (hs : s = W.getD i 0 + c + v.getD i 0) (hW : Small W) (hv : Small v) :
    AddInv W v (out ++ [s % 1000000000]) (i + 1) (s / 1000000000) := by
  obtain ⟨h1, h2, h3, h4⟩ := h
  have ga := getD_small hW i
  have gb := getD_small hv i
  refine ⟨by simp [h1], h2.snoc (Nat.mod_lt _ (by omega)), ?_, by omega⟩
  rw [val_snoc, h1, val_take_getD, val_take_getD, pow_succ']
  have := plus_step (P := 1000000000 ^ i) (p := val out) (x := W.getD i 0) (y := v.getD i 0) (s := s) h3 (by omega)
  omega
theorem AddInv.done {W v out : List Nat} {n c r : Nat} (h : AddInv W v out (n + 1) c) (hv : v.length = n) (hW : W.length = n + 1) (he : val W + val v = r + 1000000000 ^ (n + 1)) (_hr : r < 1000000000 ^ (n + 1)) : val out = r := by
  obtain ⟨e1, e2, e3, e4⟩ := h
  rw [val_take_all (by omega), val_take_all (by omega)] at e3
  have hl := val_lt e2
  rw [e1] at hl
  have : c = 0 ∨ c = 1 := by omega
  rcases this with rfl | rfl <;> omega
/-- a window of a list: its limb at i is written anew -/
theorem set_win (X out R Z : List Nat) (x y : Nat) : (X ++ (out ++ x :: R) ++ Z).set (X.length + out.length) y = X ++ ((out ++ [y]) ++ R) ++ Z := by
  simp
theorem get_win (X out R Z : List Nat) (x : Nat) : (X ++ (out ++ x :: R) ++ Z).getD (X.length + out.length) 0 = x := by
  simp [List.getD]
end Go.Proofs.YtmpelpmhbadjoaaGreatDoor
