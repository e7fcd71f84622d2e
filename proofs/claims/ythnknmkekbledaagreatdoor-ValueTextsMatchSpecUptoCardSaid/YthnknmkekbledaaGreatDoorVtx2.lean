/- Read's readers give back what Show writes. The plain mathematics: no program in sight. -/
import Derived.Test.YthnknmkekbledaaGreatDoorVtx
namespace Go.Proofs.YthnknmkekbledaaGreatDoor.Vtx
open Go.Lib Dig

theorem trimRight_split (l : List UInt8) (c : UInt8) : ∃ k, l = trimRightB l c ++ List.replicate k c := by
  have h := List.takeWhile_append_dropWhile (p := fun b : UInt8 => b == c) (l := l.reverse)
  have hr : l = (l.reverse.dropWhile (· == c)).reverse ++ (l.reverse.takeWhile (· == c)).reverse := by
    have := congrArg List.reverse h
    rw [List.reverse_append, List.reverse_reverse] at this
    exact this.symm
  refine ⟨(l.reverse.takeWhile (· == c)).length, ?_⟩
  have hk : (l.reverse.takeWhile (· == c)).reverse = List.replicate (l.reverse.takeWhile (· == c)).length c := by
    rw [List.eq_replicate_iff]
    refine ⟨by simp, fun b hb => ?_⟩
    have := List.all_eq_true.1 (List.all_takeWhile (p := fun b : UInt8 => b == c) (l := l.reverse)) b (List.mem_reverse.1 hb)
    simpa using this
  rw [← hk]
  exact hr
theorem frac_pad {m : Nat} (h : m < 10000) : padR (fracT m) 4 = padT 4 m ∧ (fracT m).length ≤ 4 := by
  have hl : (decDigits m).length ≤ 4 := dec_len 3 m h
  obtain ⟨k, hk⟩ := trimRight_split (padT 4 m) 48
  have hlen := pad_len hl
  have e := congrArg List.length hk
  rw [hlen] at e
  simp only [List.length_append, List.length_replicate] at e
  unfold padR fracT
  refine ⟨?_, by omega⟩
  rw [show 4 - (trimRightB (padT 4 (m : Int)) 48).length = k by omega]
  exact hk.symm
theorem frac_dig (m : Nat) : ∀ b ∈ fracT m, isDig b := by
  intro b hb
  obtain ⟨k, hk⟩ := trimRight_split (padT 4 m) 48
  exact pad_dig 4 m b (by rw [hk]; exact List.mem_append_left _ hb)
theorem frac_nil {m : Nat} (h : m < 10000) : fracT m = [] ↔ m = 0 := by
  constructor
  · intro e
    have := (frac_pad h).1
    rw [e] at this
    have h2 := congrArg digVal this
    rw [pad_val] at h2
    rw [← h2]; rfl
  · intro e
    subst e
    decide +kernel
/-- the number's parts -/
theorem num_parts {n : Int} (h1 : -999999999999999 ≤ n) (h2 : n ≤ 999999999999999) : ∃ F M : Nat, F ≤ 99999999999 ∧ M < 10000 ∧ absI n = ((F * 10000 + M : Nat) : Int) ∧
    numT n = (if n < 0 then [45] else []) ++ decDigits F ++ (if fracT M = [] then [] else 46 :: fracT M) := by
  have ha : 0 ≤ absI n ∧ absI n ≤ 999999999999999 := by unfold absI; split <;> omega
  refine ⟨(absI n).toNat / 10000, (absI n).toNat % 10000, by omega, by omega, by omega, ?_⟩
  have e1 : absI n / 10000 = (((absI n).toNat / 10000 : Nat) : Int) := by omega
  have e2 : absI n % 10000 = (((absI n).toNat % 10000 : Nat) : Int) := by omega
  unfold numT
  rw [e1, e2, itoa_nat]
theorem dec_head_dig (F : Nat) : ∃ b r, decDigits F = b :: r ∧ isDig b := by
  cases h : decDigits F with
  | nil => exact absurd h (dec_ne F)
  | cons b r => exact ⟨b, r, rfl, dig_dec F b (by rw [h]; exact List.mem_cons_self ..)⟩
theorem dig_byte {b : UInt8} (h : isDig b) {c : UInt8} (hc : ¬ isDig c) : b ≠ c := fun e => hc (e ▸ h)
theorem pre45_dig {l : List UInt8} {b : UInt8} {r : List UInt8} (e : l = b :: r) (h : isDig b) : hasPrefix l [45] = false := by
  subst e
  simp [hasPrefix, List.isPrefixOf]
  exact fun e => dig_byte h nd45 e.symm
theorem trim45_dig {l : List UInt8} {b : UInt8} {r : List UInt8} (e : l = b :: r) (h : isDig b) : trimPrefix l [45] = l := by
  unfold trimPrefix; rw [pre45_dig e h]; simp
theorem trim45_neg (l : List UInt8) : trimPrefix ([45] ++ l) [45] = l ∧ hasPrefix ([45] ++ l) [45] = true := by
  have h : hasPrefix ([45] ++ l) [45] = true := by simp [hasPrefix, List.isPrefixOf]
  exact ⟨by unfold trimPrefix; rw [if_pos h]; rfl, h⟩
theorem cut_num (F M : Nat) : (cut (decDigits F ++ (if fracT M = [] then [] else 46 :: fracT M)) [46]).1 = decDigits F ∧ (cut (decDigits F ++ (if fracT M = [] then [] else 46 :: fracT M)) [46]).2.1 = fracT M := by
  have hF : (46 : UInt8) ∉ decDigits F := dig_ne (dig_dec F) nd46
  by_cases h : fracT M = []
  · rw [if_pos h, List.append_nil, cut_none hF, h]; exact ⟨rfl, rfl⟩
  · rw [if_neg h, cut_at _ hF]; exact ⟨rfl, rfl⟩
theorem num_read {n : Int} (h1 : -999999999999999 ≤ n) (h2 : n ≤ 999999999999999) : readNumF (numT n) = some n := by
  obtain ⟨F, M, hF, hM, hA, e⟩ := num_parts h1 h2
  obtain ⟨c1, c2⟩ := cut_num F M
  obtain ⟨p1, p2⟩ := frac_pad hM
  have wF := whole_dec (n := F) (by have := dec_len 10 F (by omega); omega)
  have wM := whole_pad (w := 4) (n := M) (dec_len 3 M hM) (by decide)
  have lM := pad_len (w := 4) (n := M) (dec_len 3 M hM)
  have key : ∀ s, trimPrefix s [45] = decDigits F ++ (if fracT M = [] then [] else 46 :: fracT M) → readNumF s = some (if (decDigits F ++ (if fracT M = [] then [] else 46 :: fracT M)).length < s.length then -((F * 10000 + M : Nat) : Int) else ((F * 10000 + M : Nat) : Int)) := by
    intro s hs
    unfold readNumF
    simp only [hs, c1, c2, p1, wF, wM, lM]
    rw [if_pos ⟨trivial, trivial, by decide, hF⟩]
  by_cases hn : n < 0
  · rw [if_pos hn, List.append_assoc] at e
    rw [key _ (by rw [e]; exact (trim45_neg _).1), e, if_pos (by simp), ← hA]
    unfold absI; rw [if_pos hn]; simp
  · rw [if_neg hn, List.nil_append] at e
    obtain ⟨b, r, hb, hd⟩ := dec_head_dig F
    rw [key _ (by rw [e]; exact trim45_dig (by rw [hb]; rfl) hd), e, if_neg (by omega), ← hA]
    unfold absI; rw [if_neg hn]
/-! Atoi of digits -/
theorem parse_dig : ∀ (l : List UInt8) (acc : Nat), (∀ b ∈ l, isDig b) → l.length ≤ 18 → acc < 10 ^ (18 - l.length) → parseUint10 acc l = .ok (acc * 10 ^ l.length + digVal l)
  | [], acc, _, _, _ => by simp [parseUint10, digVal]
  | b :: r, acc, h, hl, ha => by
    have hb := h b (List.mem_cons_self ..)
    unfold isDig at hb
    simp only [List.length_cons] at hl ha
    have h17 : acc < 10 ^ 17 := Nat.lt_of_lt_of_le ha (Nat.pow_le_pow_right (by omega) (by omega))
    have hnext : acc * 10 + (b.toNat - 48) < 10 ^ (18 - r.length) := by
      rw [show 18 - r.length = (18 - (r.length + 1)) + 1 by omega, Nat.pow_succ]
      omega
    have h18 : acc * 10 + (b.toNat - 48) < 10 ^ 18 := Nat.lt_of_lt_of_le hnext (Nat.pow_le_pow_right (by omega) (by omega))
    unfold parseUint10
    rw [if_pos hb, if_neg (by omega), if_neg (by omega), parse_dig r _ (fun x hx => h x (List.mem_cons_of_mem _ hx)) (by omega) hnext, digVal_cons]
    congr 1
    rw [List.length_cons, Nat.pow_succ, Nat.add_mul, Nat.add_assoc, Nat.mul_assoc, Nat.mul_comm 10]
theorem atoiN_dig {l : List UInt8} (h : ∀ b ∈ l, isDig b) (h0 : l ≠ []) (hl : l.length ≤ 18) : atoiN l = (digVal l : Int) := by
  have hp := parse_dig l 0 h hl (Nat.pow_pos (by omega))
  have hv : digVal l < 10 ^ 18 := by
    have : ∀ (l : List UInt8), (∀ b ∈ l, isDig b) → digVal l < 10 ^ l.length := by
      intro l
      induction l with
      | nil => intro _; decide
      | cons b r ih =>
        intro h
        have hb := h b (List.mem_cons_self ..)
        have := ih (fun x hx => h x (List.mem_cons_of_mem _ hx))
        unfold isDig at hb
        rw [digVal_cons, List.length_cons, Nat.pow_succ]
        have : (b.toNat - 48) * 10 ^ r.length ≤ 9 * 10 ^ r.length := Nat.mul_le_mul_right _ (by omega)
        omega
    exact Nat.lt_of_lt_of_le (this l h) (Nat.pow_le_pow_right (by omega) hl)
  cases l with
  | nil => exact absurd rfl h0
  | cons b r =>
    have hb := h b (List.mem_cons_self ..)
    unfold isDig at hb
    simp only [Nat.zero_mul, Nat.zero_add] at hp
    unfold atoiN atoiAll
    have hc : ¬ (b.toNat = 43 ∨ b.toNat = 45) := by omega
    simp only [hc, if_false]
    unfold parseMag
    rw [if_neg h0, hp]
    have hneg : ¬ b.toNat = 45 := by omega
    simp only [hneg, not_false_eq_true, true_and, false_and, if_false]
    rw [if_neg (by omega)]
theorem atoiN_dec {n : Nat} (h : n < 10 ^ 18) : atoiN (decDigits n) = n := by rw [atoiN_dig (dig_dec n) (dec_ne n) (dec_len 17 n h), digVal_dec]
theorem atoiN_pad {w n : Nat} (h : (decDigits n).length ≤ w) (hw : w ≤ 18) : atoiN (padT w n) = n := by
  rw [atoiN_dig (pad_dig w n) (pad_ne w n) (by rw [pad_len h]; exact hw), pad_val]
theorem num_dec {n : Int} (h1 : -999999999999999 ≤ n) (h2 : n ≤ 999999999999999) : readDecF (numT n) = n := by
  obtain ⟨F, M, hF, hM, hA, e⟩ := num_parts h1 h2
  obtain ⟨c1, c2⟩ := cut_num F M
  obtain ⟨p1, p2⟩ := frac_pad hM
  have aF := atoiN_dec (n := F) (by omega)
  have aM := atoiN_pad (w := 4) (n := M) (dec_len 3 M hM) (by decide)
  have lF := dec_len 10 F (by omega)
  unfold padR at p1
  have key : ∀ s, trimPrefix s [45] = decDigits F ++ (if fracT M = [] then [] else 46 :: fracT M) → readDecF s = if hasPrefix s [45] then -((F : Int) * 10000 + M) else (F : Int) * 10000 + M := by
    intro s hs
    unfold readDecF
    simp only [hs, c1, c2, p1, aF, aM]
    rw [if_neg (by omega)]
  by_cases hn : n < 0
  · rw [if_pos hn, List.append_assoc] at e
    rw [key _ (by rw [e]; exact (trim45_neg _).1), e, if_pos (trim45_neg _).2]
    unfold absI at hA; rw [if_pos hn] at hA; omega
  · rw [if_neg hn, List.nil_append] at e
    obtain ⟨b, r, hb, hd⟩ := dec_head_dig F
    rw [key _ (by rw [e]; exact trim45_dig (by rw [hb]; rfl) hd), e, pre45_dig (by rw [hb]; rfl) hd, if_neg (by decide)]
    unfold absI at hA; rw [if_neg hn] at hA; omega
end Go.Proofs.YthnknmkekbledaaGreatDoor.Vtx
