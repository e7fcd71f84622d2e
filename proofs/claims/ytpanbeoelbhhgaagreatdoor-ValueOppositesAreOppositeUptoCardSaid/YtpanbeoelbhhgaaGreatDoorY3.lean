/- Whole numbers as limbs to the base 10^9, the lowest first: the plain mathematics of the naturals of both packages. No program in sight. -/
import Derived.WalkKit
namespace Go.Proofs.YtpanbeoelbhhgaaGreatDoor.Limb
def B : Nat := 1000000000
def val : List Nat → Nat
  | [] => 0
  | x :: r => x + 1000000000 * val r
def Small (l : List Nat) : Prop := ∀ x ∈ l, x < 1000000000
/-- no highest limb that is 0 -/
def Top (l : List Nat) : Prop := ∀ h : l ≠ [], l.getLast h ≠ 0
theorem val_append (l r : List Nat) : val (l ++ r) = val l + 1000000000 ^ l.length * val r := by
  induction l with
  | nil => simp [val]
  | cons x l ih =>
    simp only [List.cons_append, val, ih, List.length_cons, Nat.pow_succ, Nat.mul_add]
    rw [Nat.mul_comm (1000000000 ^ l.length) 1000000000, Nat.mul_assoc]
    omega
theorem val_snoc (l : List Nat) (x : Nat) : val (l ++ [x]) = val l + 1000000000 ^ l.length * x := by
  rw [val_append]
  simp [val]
theorem Small.nil : Small [] := fun x h => by cases h
theorem Small.append {l r : List Nat} (h : Small l) (h' : Small r) : Small (l ++ r) := fun x hx => by
  rcases List.mem_append.1 hx with hx | hx
  · exact h x hx
  · exact h' x hx
theorem Small.snoc {l : List Nat} {x : Nat} (h : Small l) (hx : x < 1000000000) : Small (l ++ [x]) := h.append fun y hy => by simp at hy; omega
theorem Small.take {l : List Nat} (h : Small l) (k : Nat) : Small (l.take k) := fun x hx => h x (List.mem_of_mem_take hx)
theorem Small.drop {l : List Nat} (h : Small l) (k : Nat) : Small (l.drop k) := fun x hx => h x (List.mem_of_mem_drop hx)
theorem Small.at_ {l : List Nat} (h : Small l) {k : Nat} (hk : k < l.length) : l[k] < 1000000000 := h _ (List.getElem_mem hk)
theorem val_lt {l : List Nat} (h : Small l) : val l < 1000000000 ^ l.length := by
  induction l with
  | nil => simp [val]
  | cons x l ih =>
    have h1 := ih fun y hy => h y (List.mem_cons.2 (Or.inr hy))
    have h2 := h x (List.mem_cons.2 (Or.inl rfl))
    simp only [val, List.length_cons, Nat.pow_succ]
    omega
theorem val_take_succ {l : List Nat} {k : Nat} (h : k < l.length) : val (l.take (k + 1)) = val (l.take k) + 1000000000 ^ k * l[k] := by
  rw [List.take_succ_eq_append_getElem h, val_snoc]
  simp [Nat.min_eq_left (Nat.le_of_lt h)]
theorem val_take_all {l : List Nat} {k : Nat} (h : l.length ≤ k) : val (l.take k) = val l := by rw [List.take_of_length_le h]
theorem val_split (l : List Nat) (k : Nat) (h : k ≤ l.length) : val l = val (l.take k) + 1000000000 ^ k * val (l.drop k) := by
  conv => lhs; rw [← List.take_append_drop k l]
  rw [val_append]
  simp [Nat.min_eq_left h]
theorem pow_pos (k : Nat) : 0 < 1000000000 ^ k := Nat.pow_pos (by omega)
theorem pow_mono {a b : Nat} (h : a ≤ b) : 1000000000 ^ a ≤ 1000000000 ^ b := Nat.pow_le_pow_right (by omega) h
/-- a number whose highest limb is not 0 is at least its power -/
theorem val_ge {l : List Nat} (h : Top l) (hl : l ≠ []) : 1000000000 ^ (l.length - 1) ≤ val l := by
  have e := List.dropLast_concat_getLast hl
  have h1 := h hl
  rw [← e, val_snoc]
  have : (l.dropLast ++ [l.getLast hl]).length - 1 = l.dropLast.length := by simp
  rw [this]
  have : 1000000000 ^ l.dropLast.length * 1 ≤ 1000000000 ^ l.dropLast.length * l.getLast hl := Nat.mul_le_mul_left _ (by omega)
  omega
theorem lt_of_len {a b : List Nat} (ha : Small a) (hb : Top b) (h : a.length < b.length) : val a < val b := by
  have h1 := val_lt ha
  have h2 := val_ge hb (by intro e; subst e; simp at h)
  have h3 := pow_mono (show a.length ≤ b.length - 1 by omega)
  omega
theorem val_eq_zero {l : List Nat} (h : Top l) : val l = 0 ↔ l = [] := by
  constructor
  · intro h0
    rcases Classical.em (l = []) with e | e
    · exact e
    · have := val_ge h e
      have := pow_pos (l.length - 1)
      omega
  · rintro rfl; rfl
/-- from the top on equal, then less -/
theorem lt_at {a b : List Nat} (ha : Small a) {i : Nat} (hi : i < a.length) (hi' : i < b.length) (hd : a.drop (i + 1) = b.drop (i + 1)) (hlt : a[i] < b[i]) : val a < val b := by
  have e1 := val_split a (i + 1) (by omega)
  have e2 := val_split b (i + 1) (by omega)
  have t1 := val_take_succ hi
  have t2 := val_take_succ hi'
  have h1 := val_lt (ha.take i)
  have hl : (a.take i).length = i := by simp; omega
  rw [hl] at h1
  have : 1000000000 ^ i * (a[i] + 1) ≤ 1000000000 ^ i * b[i] := Nat.mul_le_mul_left _ hlt
  rw [Nat.mul_add] at this
  rw [e1, e2, hd, t1, t2]
  omega
theorem val_zeros (l : List Nat) (k : Nat) : val (l ++ List.replicate k 0) = val l := by
  induction k generalizing l with
  | zero => simp
  | succ k ih =>
    rw [List.replicate_succ, show l ++ 0 :: List.replicate k 0 = (l ++ [0]) ++ List.replicate k 0 from by simp, ih, val_snoc]
    simp
theorem pow_succ' (k : Nat) : 1000000000 ^ (k + 1) = 1000000000 ^ k * 1000000000 := Nat.pow_succ ..
/-- one place of a sum: s = limb + limb + carry -/
theorem plus_step {P p q x y c s : Nat} (h : p + P * c = q) (hs : s = x + y + c) : (p + P * (s % 1000000000)) + (P * 1000000000) * (s / 1000000000) = q + P * x + P * y := by
  have e : s % 1000000000 + 1000000000 * (s / 1000000000) = s := by omega
  have e2 : P * (s % 1000000000) + (P * 1000000000) * (s / 1000000000) = P * s := by
    rw [Nat.mul_assoc, ← Nat.mul_add, e]
  have e3 : P * s = P * x + P * y + P * c := by rw [hs, Nat.mul_add, Nat.mul_add]
  omega
/-- one place of a difference -/
theorem minus_step {P p q r x y c l : Nat} (c' : Nat) (h : p + q = r + P * c) (hs : x + 1000000000 * c' = l + (y + c)) : (p + P * l) + (q + P * y) = (r + P * x) + (P * 1000000000) * c' := by
  have e : P * (x + 1000000000 * c') = P * (l + (y + c)) := by rw [hs]
  rw [Nat.mul_add, Nat.mul_add, Nat.mul_add, ← Nat.mul_assoc] at e
  omega
end Go.Proofs.YtpanbeoelbhhgaaGreatDoor.Limb
