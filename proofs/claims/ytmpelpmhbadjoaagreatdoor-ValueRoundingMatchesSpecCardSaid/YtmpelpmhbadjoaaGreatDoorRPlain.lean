/- The reference's naturals: the plain mathematics of its long division and of its texts. No program in sight. -/
import Derived.Test.YtmpelpmhbadjoaaGreatDoorDig
namespace Go.Proofs.YtmpelpmhbadjoaaGreatDoor.RefN
open Limb Dig

/-- the long division: m limbs of a are still to come down; q has the limbs of the quotient from m on, zeros below; r is the rest -/
structure LongInv (a : List Nat) (b : Nat) (first m : Nat) (q : List Nat) (r : Nat) : Prop where
  len : q.length = first
  low : q.take m = List.replicate m 0
  sm : Small q
  eq : val (a.drop m) = b * val (q.drop m) + r
  lt : r < b
  le : m ≤ first
theorem LongInv.start {a : List Nat} {b first : Nat} (hlt : val (a.drop first) < b) : LongInv a b first first (List.replicate first 0) (val (a.drop first)) := by
  refine ⟨by simp, by simp, fun x hx => by have := (List.mem_replicate.1 hx).2; omega, ?_, hlt, Nat.le_refl _⟩
  rw [show (List.replicate first 0).drop first = [] from List.drop_of_length_le (by simp)]
  simp [val]
theorem LongInv.next {a : List Nat} {b first i : Nat} {q : List Nat} {r x d r' : Nat} (h : LongInv a b first (i + 1) q r) (hi : i < a.length) (hx : a[i] = x) (hd : d = (x + 1000000000 * r) / b) (hr : r' = (x + 1000000000 * r) % b) (hb : 0 < b) (hx9 : x < 1000000000) :
    d < 1000000000 ∧ LongInv a b first i (q.set i d) r' := by
  obtain ⟨h1, h2, h3, h4, h5, h6⟩ := h
  have hdl : d < 1000000000 := by
    rw [hd]
    refine (Nat.div_lt_iff_lt_mul hb).2 ?_
    have : 1000000000 * (r + 1) ≤ 1000000000 * b := Nat.mul_le_mul_left _ h5
    omega
  have hil : i < q.length := by omega
  refine ⟨hdl, by simp [h1], ?_, ?_, ?_, by rw [hr]; exact Nat.mod_lt _ hb, by omega⟩
  · rw [List.take_set_of_le (Nat.le_refl _)]
    have := congrArg (List.take i) h2
    simpa [List.take_take, Nat.min_eq_left (Nat.le_succ i)] using this
  · intro y hy
    rcases List.mem_or_eq_of_mem_set hy with hy | rfl
    · exact h3 y hy
    · exact hdl
  · rw [List.drop_eq_getElem_cons hi, val, hx, h4, List.drop_eq_getElem_cons (show i < (q.set i d).length by simpa using hil), List.getElem_set_self, val]
    rw [List.drop_set_of_lt (Nat.lt_add_one i)]
    have e := Nat.div_add_mod (x + 1000000000 * r) b
    rw [← hd, ← hr] at e
    rw [Nat.mul_add, Nat.mul_add, ← Nat.mul_assoc, ← Nat.mul_assoc, Nat.mul_comm 1000000000 b]
    omega
theorem LongInv.done {a : List Nat} {b first : Nat} {q : List Nat} {r : Nat} (h : LongInv a b first 0 q r) : val q = val a / b ∧ r = val a % b := by
  have e := h.eq
  rw [List.drop_zero, List.drop_zero] at e
  have hb : 0 < b := Nat.lt_of_le_of_lt (Nat.zero_le _) h.lt
  rw [e, Nat.mul_add_div hb, Nat.mul_add_mod, Nat.div_eq_of_lt h.lt, Nat.mod_eq_of_lt h.lt]
  omega
theorem first_lt {a b : List Nat} (ha : Small a) (hb : Top b) (hbl : b ≠ []) (hl : b.length ≤ a.length) : val (a.drop (a.length - b.length + 1)) < val b := by
  have h1 := val_lt (ha.drop (a.length - b.length + 1))
  have h2 := val_ge hb hbl
  have hp : 0 < b.length := List.length_pos_iff.2 hbl
  rw [List.length_drop, show a.length - (a.length - b.length + 1) = b.length - 1 by omega] at h1
  omega
theorem top_drop {a : List Nat} (h : Top a) (k : Nat) : Top (a.drop k) := by
  intro hne
  rw [List.getLast_drop]
  exact h _
/-- the text of a natural, the reference's way: the highest limb plain, nine digits each behind it -/
theorem dec_head (x : Nat) (hx : 0 < x) : (Lib.decDigits x).head? ≠ some 48 ∧ Lib.decDigits x ≠ [] := by
  induction x using Nat.strongRecOn with
  | _ u ih =>
    rw [Lib.decDigits]
    by_cases h : u < 10
    · rw [dif_pos h]
      refine ⟨?_, by simp⟩
      intro e
      have e2 : UInt8.ofNat (48 + u) = 48 := by simpa using e
      have := congrArg UInt8.toNat e2
      rw [ofNat_dig h] at this
      have h48 : (48 : UInt8).toNat = 48 := rfl
      omega
    · rw [dif_neg h]
      obtain ⟨h1, h2⟩ := ih (u / 10) (by omega) (by omega)
      refine ⟨?_, by simp⟩
      cases hc : Lib.decDigits (u / 10) with
      | nil => exact absurd hc h2
      | cons b t => rw [hc] at h1; simpa using h1
theorem drop_zeros (k : Nat) (l : List UInt8) (h : l.head? ≠ some 48) : (zeros k ++ l).dropWhile (· == 48) = l := by
  induction k with
  | zero =>
    show l.dropWhile _ = l
    cases l with
    | nil => rfl
    | cons b t => rw [List.dropWhile_cons_of_neg (by intro hb; exact h (by simp at hb; rw [hb]; rfl))]
  | succ k ih =>
    rw [zeros, List.replicate_succ, List.cons_append, List.dropWhile_cons_of_pos (by decide)]
    exact ih
theorem allD_snoc (r : List Nat) (x : Nat) : allD (r ++ [x]) = pad9 x ++ allD r := by
  induction r with
  | nil => simp [allD]
  | cons y r ih => rw [List.cons_append, allD, ih, allD, List.append_assoc]
theorem decL_top (r : List Nat) (x : Nat) (hx : 0 < x) : decL (r ++ [x]) = Lib.decDigits x ++ allD r := by
  obtain ⟨h1, h2⟩ := dec_head x hx
  rw [decL, if_neg (by simp), allD_snoc, pad9, List.append_assoc]
  refine drop_zeros _ _ ?_
  cases hc : Lib.decDigits x with
  | nil => exact absurd hc h2
  | cons b t => rw [hc] at h1; simpa using h1
/-- the greatest n with b n ≤ r, found between low and high -/
theorem half_mid {low high : Nat} (h : low < high) : low < (low + high + 1) / 2 ∧ (low + high + 1) / 2 ≤ high := by omega
theorem le_div {b n r : Nat} (hb : 0 < b) : b * n ≤ r ↔ n ≤ r / b := by rw [Nat.le_div_iff_mul_le hb, Nat.mul_comm]
end Go.Proofs.YtmpelpmhbadjoaaGreatDoor.RefN
