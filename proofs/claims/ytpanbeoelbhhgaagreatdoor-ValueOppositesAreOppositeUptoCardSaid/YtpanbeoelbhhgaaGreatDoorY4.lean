/- Decimal texts: the plain mathematics. No program in sight. -/
import Derived.Test.YtpanbeoelbhhgaaGreatDoorY3
import Derived.Lib.ItoaNum
namespace Go.Proofs.YtpanbeoelbhhgaaGreatDoor.Dig
open Limb
def isDig (b : UInt8) : Prop := 48 ≤ b.toNat ∧ b.toNat ≤ 57
def digVal (l : List UInt8) : Nat := l.foldl (fun n b => n * 10 + (b.toNat - 48)) 0
theorem foldl_dig (l : List UInt8) (n : Nat) : l.foldl (fun n b => n * 10 + (b.toNat - 48)) n = n * 10 ^ l.length + digVal l := by
  induction l generalizing n with
  | nil => simp [digVal]
  | cons b l ih =>
    have e : digVal (b :: l) = (b.toNat - 48) * 10 ^ l.length + digVal l := by
      unfold digVal
      rw [List.foldl_cons, ih, Nat.zero_mul, Nat.zero_add]
      rfl
    rw [List.foldl_cons, ih, e, List.length_cons, Nat.pow_succ, Nat.add_mul]
    have : n * 10 * 10 ^ l.length = n * (10 ^ l.length * 10) := by rw [Nat.mul_assoc, Nat.mul_comm 10]
    omega
theorem digVal_append (a b : List UInt8) : digVal (a ++ b) = digVal a * 10 ^ b.length + digVal b := by
  have := foldl_dig b (digVal a)
  unfold digVal at *
  rw [List.foldl_append, this]
theorem digVal_cons (b : UInt8) (l : List UInt8) : digVal (b :: l) = (b.toNat - 48) * 10 ^ l.length + digVal l := by
  have := digVal_append [b] l
  simpa [digVal] using this
theorem digVal_snoc (l : List UInt8) (b : UInt8) : digVal (l ++ [b]) = digVal l * 10 + (b.toNat - 48) := by
  simp [digVal]
theorem ofNat_dig {k : Nat} (h : k < 10) : (UInt8.ofNat (48 + k)).toNat = 48 + k := by
  rw [UInt8.toNat_ofNat']; omega
theorem digVal_dec (u : Nat) : digVal (Lib.decDigits u) = u := by
  induction u using Nat.strongRecOn with
  | _ u ih =>
    rw [Lib.decDigits]
    by_cases h : u < 10
    · rw [dif_pos h]
      simp only [digVal, List.foldl_cons, List.foldl_nil, ofNat_dig h]
      omega
    · rw [dif_neg h, digVal_snoc, ih (u / 10) (by omega), ofNat_dig (Nat.mod_lt _ (by omega))]
      omega
theorem dig_dec (u : Nat) : ∀ b ∈ Lib.decDigits u, isDig b := by
  induction u using Nat.strongRecOn with
  | _ u ih =>
    rw [Lib.decDigits]
    by_cases h : u < 10
    · rw [dif_pos h]
      intro b hb
      rw [List.mem_singleton.1 hb]
      unfold isDig
      rw [ofNat_dig h]
      omega
    · rw [dif_neg h]
      intro b hb
      rcases List.mem_append.1 hb with hb | hb
      · exact ih (u / 10) (by omega) b hb
      · rw [List.mem_singleton.1 hb]
        unfold isDig
        rw [ofNat_dig (Nat.mod_lt _ (by omega))]
        omega
theorem dec_len (k u : Nat) (h : u < 10 ^ (k + 1)) : (Lib.decDigits u).length ≤ k + 1 := by
  induction k generalizing u with
  | zero => rw [Lib.decDigits, dif_pos (by simpa using h)]; simp
  | succ k ih =>
    rw [Lib.decDigits]
    by_cases h0 : u < 10
    · rw [dif_pos h0]; simp
    · rw [dif_neg h0, List.length_append]
      have := ih (u / 10) (by rw [Nat.pow_succ] at h; omega)
      simp
      omega
def zeros (k : Nat) : List UInt8 := List.replicate k 48
theorem digVal_zeros (k : Nat) (l : List UInt8) : digVal (zeros k ++ l) = digVal l := by
  induction k with
  | zero => rfl
  | succ k ih =>
    rw [zeros, List.replicate_succ, List.cons_append, digVal_cons]
    rw [show List.replicate k 48 ++ l = zeros k ++ l from rfl, ih]
    simp
/-- nine digits -/
def pad9 (n : Nat) : List UInt8 := zeros (9 - (Lib.decDigits n).length) ++ Lib.decDigits n
theorem pad9_len {n : Nat} (h : n < 1000000000) : (pad9 n).length = 9 := by
  have := dec_len 8 n (by simpa using h)
  simp [pad9, zeros]
  omega
theorem pad9_val (n : Nat) : digVal (pad9 n) = n := by rw [pad9, digVal_zeros, digVal_dec]
/-- all limbs, the highest first, nine digits each -/
def allD : List Nat → List UInt8
  | [] => []
  | x :: r => allD r ++ pad9 x
theorem allD_val (l : List Nat) (h : Small l) : digVal (allD l) = val l ∧ (allD l).length = 9 * l.length := by
  induction l with
  | nil => exact ⟨rfl, rfl⟩
  | cons x r ih =>
    have ih := ih fun y hy => h y (List.mem_cons.2 (Or.inr hy))
    have hx := h x (List.mem_cons.2 (Or.inl rfl))
    rw [allD, digVal_append, pad9_len hx, pad9_val, ih.1, List.length_append, pad9_len hx, ih.2, val, List.length_cons]
    omega
/-- a natural's text -/
def decL (l : List Nat) : List UInt8 := if l = [] then [48] else (allD l).dropWhile (· == 48)
/-- a natural has one list of limbs -/
theorem limbs_one {a b : List Nat} (ha : Small a) (hb : Small b) (hta : Top a) (htb : Top b) (h : val a = val b) : a = b := by
  induction a generalizing b with
  | nil => exact ((val_eq_zero htb).1 h.symm).symm
  | cons x r ih =>
    cases b with
    | nil => exact (val_eq_zero hta).1 h
    | cons y s =>
      have hx := ha x (List.mem_cons.2 (Or.inl rfl))
      have hy := hb y (List.mem_cons.2 (Or.inl rfl))
      simp only [val] at h
      have e1 : x = y := by omega
      have e2 : val r = val s := by omega
      rw [e1, ih (fun z hz => ha z (List.mem_cons.2 (Or.inr hz))) (fun z hz => hb z (List.mem_cons.2 (Or.inr hz))) (fun hn => by have := hta (List.cons_ne_nil _ _); rwa [List.getLast_cons hn] at this) (fun hn => by have := htb (List.cons_ne_nil _ _); rwa [List.getLast_cons hn] at this) e2]
/-- the limbs of a number, and its text -/
def limbs (n : Nat) : List Nat := if h : n = 0 then [] else n % 1000000000 :: limbs (n / 1000000000)
termination_by n
decreasing_by omega
theorem limbs_ok (n : Nat) : Small (limbs n) ∧ Top (limbs n) ∧ val (limbs n) = n := by
  induction n using Nat.strongRecOn with
  | _ n ih =>
    rw [limbs]
    split
    · rename_i h; subst h; exact ⟨Small.nil, fun h => absurd rfl h, rfl⟩
    · rename_i h
      obtain ⟨h1, h2, h3⟩ := ih (n / 1000000000) (by omega)
      refine ⟨fun y hy => ?_, fun hne => ?_, by rw [val, h3]; omega⟩
      · rcases List.mem_cons.1 hy with rfl | hy
        · omega
        · exact h1 y hy
      · by_cases hr : limbs (n / 1000000000) = []
        · rw [hr] at h3
          simp only [val] at h3
          simp only [hr, List.getLast_singleton]
          omega
        · rw [List.getLast_cons hr]
          exact h2 hr
def decS (n : Nat) : List UInt8 := decL (limbs n)
theorem decS_of {l : List Nat} {x : Nat} (h : Small l) (ht : Top l) (hv : val l = x) : decL l = decS x := by
  unfold decS
  obtain ⟨h1, h2, h3⟩ := limbs_ok x
  rw [limbs_one h h1 ht h2 (hv.trans h3.symm)]
end Go.Proofs.YtpanbeoelbhhgaaGreatDoor.Dig
