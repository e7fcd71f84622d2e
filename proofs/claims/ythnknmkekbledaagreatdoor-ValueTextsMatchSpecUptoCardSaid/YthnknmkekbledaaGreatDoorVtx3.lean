/- Both readers give back what Show writes, for every sound value. The plain mathematics: no program in sight. -/
import Derived.Test.YthnknmkekbledaaGreatDoorVtx2
namespace Go.Proofs.YthnknmkekbledaaGreatDoor.Vtx
open Go.Lib Dig

theorem code_nat {c : Int} (h : 0 ≤ c) : codeT c = 35 :: decDigits c.toNat := by
  unfold codeT
  obtain ⟨m, rfl⟩ : ∃ m : Nat, c = m := ⟨c.toNat, by omega⟩
  rw [itoa_nat]; simp
theorem code_no {c : Int} (h : 0 ≤ c) {x : UInt8} (hx : ¬ isDig x) (h35 : x ≠ 35) : x ∉ codeT c := by
  rw [code_nat h]
  intro hm
  rcases List.mem_cons.1 hm with e | e
  · exact h35 e
  · exact hx (dig_dec _ x e)
theorem trim35 (l : List UInt8) : trimPrefix (35 :: l) [35] = l := by simp [trimPrefix, hasPrefix, List.isPrefixOf]
theorem codes_back : ∀ {l : List Int}, (∀ c ∈ l, 1 ≤ c ∧ c ≤ 999) → codesF (l.map codeT) = some l
  | [], _ => rfl
  | c :: r, h => by
    have hc := h c (List.mem_cons_self ..)
    have hw := whole_dec (n := c.toNat) (by have := dec_len 2 c.toNat (by omega); omega)
    simp only [List.map_cons, codesF]
    rw [code_nat (by omega), trim35, hw, if_pos rfl, codes_back (fun x hx => h x (List.mem_cons_of_mem _ hx))]
    simp
    omega
theorem codesC_back {l : List Int} (h : ∀ c ∈ l, 1 ≤ c ∧ c ≤ 999) : codesC (l.map codeT) = l := by
  unfold codesC
  induction l with
  | nil => rfl
  | cons c r ih =>
    have hc := h c (List.mem_cons_self ..)
    have hn : codeT c ≠ [] := by unfold codeT; simp
    rw [List.map_cons, List.filter_cons_of_pos (by simpa using hn), List.map_cons, ih (fun x hx => h x (List.mem_cons_of_mem _ hx)), code_nat (by omega), trim35,
      atoiN_dec (Nat.lt_of_le_of_lt (show c.toNat ≤ 999 by omega) (by decide))]
    congr 1
    omega
theorem join_codes {c : Int} {r : List Int} (h : ∀ x ∈ c :: r, 1 ≤ x ∧ x ≤ 999) : (∃ t, join ((c :: r).map codeT) [44] = 35 :: t) ∧ (∃ t b, join ((c :: r).map codeT) [44] = t ++ [b] ∧ isDig b) := by
  have hd : ∀ (c : Int), 1 ≤ c → ∃ t b, codeT c = t ++ [b] ∧ isDig b := by
    intro c hc
    rw [code_nat (by omega)]
    have hne := dec_ne c.toNat
    refine ⟨35 :: (decDigits c.toNat).dropLast, (decDigits c.toNat).getLast hne, ?_, dig_dec _ _ (List.getLast_mem hne)⟩
    rw [List.cons_append, List.dropLast_concat_getLast]
  constructor
  · rw [List.map_cons, join_cons, code_nat (by have := h c (List.mem_cons_self ..); omega)]
    exact ⟨_, rfl⟩
  · induction r generalizing c with
    | nil =>
      rw [List.map_cons, List.map_nil, join_one]
      exact hd c (h c (List.mem_cons_self ..)).1
    | cons d r ih =>
      obtain ⟨t, b, e, hb⟩ := ih (c := d) (fun x hx => h x (List.mem_cons_of_mem _ hx))
      have e2 : join ((c :: d :: r).map codeT) [44] = codeT c ++ 44 :: join ((d :: r).map codeT) [44] := by
        simp only [List.map_cons]
        rw [join_cons, join_cons]; simp [joinTail]
      rw [e2, e]
      exact ⟨codeT c ++ 44 :: t, b, by simp, hb⟩
theorem inner_set (l : List Int) : innerF (setT l) = join (l.map codeT) [44] := by
  unfold innerF setT
  have h1 : trimPrefix (123 :: join (l.map codeT) [44] ++ [125]) [123] = join (l.map codeT) [44] ++ [125] := by simp [trimPrefix, hasPrefix, List.isPrefixOf]
  rw [h1]
  have h2 : hasSuffix (join (l.map codeT) [44] ++ [125]) [125] = true := by
    unfold hasSuffix
    rw [List.isSuffixOf_iff_suffix]
    exact ⟨_, rfl⟩
  unfold trimSuffix
  rw [if_pos h2]
  simp
theorem codes_no {l : List Int} (h : ∀ c ∈ l, 1 ≤ c ∧ c ≤ 999) : ∀ p ∈ l.map codeT, (44 : UInt8) ∉ p := by
  intro p hp
  obtain ⟨c, hc, rfl⟩ := List.mem_map.1 hp
  exact code_no (by have := h c hc; omega) nd44 (by decide)
theorem set_read {l : List Int} (h : ∀ c ∈ l, 1 ≤ c ∧ c ≤ 999) : readSetF (setT l) = some l := by
  unfold readSetF
  rw [inner_set]
  cases l with
  | nil => rfl
  | cons c r =>
    obtain ⟨⟨t, ht⟩, -⟩ := join_codes h
    rw [if_neg (by rw [ht]; simp), split_join (by simp) (codes_no h), codes_back h]
theorem trim_set {l : List Int} (h : ∀ c ∈ l, 1 ≤ c ∧ c ≤ 999) : trimS (setT l) [123, 125] = join (l.map codeT) [44] := by
  unfold setT
  cases l with
  | nil => decide
  | cons c r =>
    obtain ⟨⟨t, ht⟩, ⟨t', b, ht', hb⟩⟩ := join_codes h
    have hR : trimRightS (123 :: join ((c :: r).map codeT) [44] ++ [125]) [123, 125] = 123 :: join ((c :: r).map codeT) [44] := by
      unfold trimRightS
      rw [ht']
      have hb1 : [123, 125].contains b = false := by
        unfold isDig at hb
        rw [Bool.eq_false_iff]
        intro e
        simp at e
        rcases e with e | e <;> (subst e; revert hb; decide)
      have e : (123 :: (t' ++ [b]) ++ [125]).reverse = 125 :: b :: (t'.reverse ++ [123]) := by simp
      rw [e, List.dropWhile_cons_of_pos (by decide), List.dropWhile_cons_of_neg (by rw [hb1]; decide)]
      simp
    unfold trimS
    rw [hR, ht]
    unfold trimLeftS
    rw [List.dropWhile_cons_of_pos (by decide), List.dropWhile_cons_of_neg (by decide)]
theorem set_cand {l : List Int} (h : ∀ c ∈ l, 1 ≤ c ∧ c ≤ 999) : codesC (split (trimS (setT l) [123, 125]) [44]) = l := by
  rw [trim_set h]
  cases l with
  | nil => decide
  | cons c r => rw [split_join (by simp) (codes_no h), codesC_back h]
/-! days -/
theorem day_parts {n : Int} (h1 : -25567 ≤ n) (h2 : n ≤ 84005) : ∃ y m d : Nat, Cal.cy n = y ∧ Cal.cm n = m ∧ Cal.cd n = d ∧ y < 10000 ∧ m < 100 ∧ d < 100 ∧ Cal.okDate y m d = true ∧ Cal.num y m d = n := by
  have h := Cal.civ_spec h1 h2
  have hr := Cal.range_year h1 h2 h.year.1 h.year.2
  have hb := Cal.dim_bd (Cal.cy n) (Cal.cm n)
  have hm1 := h.m1
  have hm2 := h.m2
  have hd1 := h.d1
  have hd2 := h.d2
  have hok : Cal.okDate (Cal.cy n) (Cal.cm n) (Cal.cd n) = true := by rw [Cal.okDate_iff]; exact ⟨hr, ⟨h.m1, h.m2⟩, h.d1, h.d2⟩
  have ey : Cal.cy n = ((Cal.cy n).toNat : Int) := by omega
  have em : Cal.cm n = ((Cal.cm n).toNat : Int) := by omega
  have ed : Cal.cd n = ((Cal.cd n).toNat : Int) := by omega
  refine ⟨(Cal.cy n).toNat, (Cal.cm n).toNat, (Cal.cd n).toNat, ey, em, ed, by omega, by omega, by omega, ?_, ?_⟩
  · rw [← ey, ← em, ← ed]; exact hok
  · rw [← ey, ← em, ← ed]; exact h.eq
theorem day_read {n : Int} (h1 : -25567 ≤ n) (h2 : n ≤ 84005) : readDayF (dayT n).tail = some n := by
  obtain ⟨y, m, d, ey, em, ed, hy, hm, hd, hok, hn⟩ := day_parts h1 h2
  have ly := dec_len 3 y hy
  have lm := dec_len 1 m hm
  have ld := dec_len 1 d hd
  have e : (dayT n).tail = padT 4 y ++ 45 :: (padT 2 m ++ 45 :: padT 2 d) := by
    unfold dayT
    rw [ey, em, ed]
    simp
  unfold readDayF
  rw [e, split_at _ (dig_ne (pad_dig 4 y) nd45), split_at _ (dig_ne (pad_dig 2 m) nd45), split_one (dig_ne (pad_dig 2 d) nd45)]
  simp only [whole_pad ly (by decide), whole_pad lm (by decide), whole_pad ld (by decide)]
  rw [if_pos (by simp [hok]), hn]
theorem day_cand {n : Int} (h1 : -25567 ≤ n) (h2 : n ≤ 84005) : (dayT n).length = 11 ∧ dateK (atoiN (((dayT n).take 5).drop 1)) (atoiN (((dayT n).take 8).drop 6)) (atoiN ((dayT n).drop 9)) = 6 ∧
    dateN (atoiN (((dayT n).take 5).drop 1)) (atoiN (((dayT n).take 8).drop 6)) (atoiN ((dayT n).drop 9)) = n := by
  obtain ⟨y, m, d, ey, em, ed, hy, hm, hd, hok, hn⟩ := day_parts h1 h2
  have ly := dec_len 3 y hy
  have lm := dec_len 1 m hm
  have ld := dec_len 1 d hd
  have py := pad_len (w := 4) (n := y) ly
  have pm := pad_len (w := 2) (n := m) lm
  have pd := pad_len (w := 2) (n := d) ld
  have ay := atoiN_pad (w := 4) (n := y) ly (by decide)
  have am := atoiN_pad (w := 2) (n := m) lm (by decide)
  have ad := atoiN_pad (w := 2) (n := d) ld (by decide)
  have e : dayT n = 64 :: (padT 4 y ++ 45 :: (padT 2 m ++ 45 :: padT 2 d)) := by
    unfold dayT
    rw [ey, em, ed]
    simp
  have s1 : ((dayT n).take 5).drop 1 = padT 4 y := by
    rw [e, List.take_succ_cons, List.drop_succ_cons, List.drop_zero, List.take_left' py]
  have s2 : ((dayT n).take 8).drop 6 = padT 2 m := by
    have e2 : dayT n = (64 :: (padT 4 y ++ [45])) ++ (padT 2 m ++ (45 :: padT 2 d)) := by rw [e]; simp
    have l1 : (64 :: (padT 4 y ++ [45])).length = 6 := by simp [py]
    rw [List.drop_take, e2, ← l1, List.drop_left, l1, show 8 - 6 = 2 from rfl, List.take_left' pm]
  have s3 : (dayT n).drop 9 = padT 2 d := by
    have e2 : dayT n = (64 :: (padT 4 y ++ [45] ++ padT 2 m ++ [45])) ++ padT 2 d := by rw [e]; simp
    have l1 : (64 :: (padT 4 y ++ [45] ++ padT 2 m ++ [45])).length = 9 := by simp [py, pm]
    rw [e2, ← l1, List.drop_left]
  rw [s1, s2, s3, ay, am, ad]
  unfold dateK dateN
  rw [if_pos hok, if_pos hok, hn]
  refine ⟨?_, rfl, rfl⟩
  rw [e]; simp [py, pm, pd]
/-! all -/
theorem num_head {n : Int} (h1 : -999999999999999 ≤ n) (h2 : n ≤ 999999999999999) : ∃ b r, numT n = b :: r ∧ (isDig b ∨ (b = 45 ∧ ∃ c t, r = c :: t)) := by
  obtain ⟨F, M, hF, hM, hA, e⟩ := num_parts h1 h2
  obtain ⟨b, r, hb, hd⟩ := dec_head_dig F
  by_cases hn : n < 0
  · rw [if_pos hn, hb] at e
    exact ⟨45, _, by rw [e]; rfl, .inr ⟨rfl, _, _, rfl⟩⟩
  · rw [if_neg hn, hb] at e
    exact ⟨b, _, by rw [e]; rfl, .inl hd⟩
theorem num_not {n : Int} (h1 : -999999999999999 ≤ n) (h2 : n ≤ 999999999999999) : numT n ≠ [] ∧ numT n ≠ [45] ∧ numT n ≠ trueT ∧ numT n ≠ falseT ∧ (numT n).head? ≠ some 39 ∧ (numT n).head? ≠ some 35 ∧ (numT n).head? ≠ some 123 ∧ (numT n).head? ≠ some 64 ∧ numT n ≠ w1T ∧ numT n ≠ w2T ∧ numT n ≠ w3T := by
  obtain ⟨b, r, e, h⟩ := num_head h1 h2
  rw [e]
  have hne : ∀ c : UInt8, ¬ isDig c → c ≠ 45 → b ≠ c := by
    intro c hc hc' hb
    rcases h with h | ⟨h, -⟩
    · exact hc (hb ▸ h)
    · exact hc' (hb ▸ h)
  have k : ∀ c : UInt8, ¬ isDig c → c ≠ 45 → ∀ t, b :: r ≠ c :: t := fun c h1 h2 t e => hne c h1 h2 (List.cons.inj e).1
  have hh : ∀ c : UInt8, ¬ isDig c → c ≠ 45 → (b :: r).head? ≠ some c := fun c h1 h2 e => hne c h1 h2 (by simpa using e)
  refine ⟨by simp, ?_, k _ (by unfold isDig; decide) (by decide) _, k _ (by unfold isDig; decide) (by decide) _, hh _ (by unfold isDig; decide) (by decide), hh _ (by unfold isDig; decide) (by decide), hh _ (by unfold isDig; decide) (by decide), hh _ (by unfold isDig; decide) (by decide), k _ (by unfold isDig; decide) (by decide) _, k _ (by unfold isDig; decide) (by decide) _, k _ (by unfold isDig; decide) (by decide) _⟩
  intro e2
  rcases h with h | ⟨-, c, t, hr⟩
  · exact nd45 ((List.cons.inj e2).1 ▸ h)
  · rw [hr] at e2; cases (List.cons.inj e2).2
theorem text_tail (s : List UInt8) : trimSuffix (replaceAll s [39] [39, 39] ++ [39]) [39] = replaceAll s [39] [39, 39] := by
  have h2 : hasSuffix (replaceAll s [39] [39, 39] ++ [39]) [39] = true := by
    unfold hasSuffix
    rw [List.isSuffixOf_iff_suffix]
    exact ⟨_, rfl⟩
  unfold trimSuffix
  rw [if_pos h2]
  simp
theorem guess_show {k n : Int} {s : List UInt8} {l : List Int} (h : Snd k n s l) : guessF (showT k n s l) = some ⟨k, n, s, l⟩ := by
  cases h with
  | none_ => decide +kernel
  | word h1 h2 =>
    obtain rfl | rfl | rfl : n = 1 ∨ n = 2 ∨ n = 3 := by omega
    all_goals rfl
  | num h1 h2 =>
    obtain ⟨a1, a2, a3, a4, a5, a6, a7, a8, a9, a10, a11⟩ := num_not h1 h2
    show guessF (numT n) = _
    unfold guessF
    rw [if_neg a1, if_neg a2, if_neg a3, if_neg a4, if_neg a5, if_neg a6, if_neg a7, if_neg a8, if_neg a9, if_neg a10, if_neg a11, num_read h1 h2]
    rfl
  | text s =>
    show guessF (textT s) = _
    unfold guessF textT
    rw [if_neg (by simp), if_neg (by simp), if_neg (by simp [trueT]), if_neg (by simp [falseT]), if_pos (by simp)]
    simp only [List.cons_append, List.tail_cons]
    rw [text_tail, back]
  | code h1 h2 =>
    show guessF (codeT n) = _
    have hw := whole_dec (n := n.toNat) (by have := dec_len 2 n.toNat (by omega); omega)
    rw [code_nat (by omega)]
    unfold guessF
    rw [if_neg (by simp), if_neg (by simp), if_neg (by simp [trueT]), if_neg (by simp [falseT]), if_neg (by simp), if_pos (by simp)]
    simp only [List.tail_cons, hw, if_true]
    rw [show ((n.toNat : Nat) : Int) = n by omega]
  | set h =>
    show guessF (setT l) = _
    have e : (setT l).head? = some 123 := by simp [setT]
    unfold guessF
    rw [if_neg (by simp [setT]), if_neg (by simp [setT]), if_neg (by simp [setT, trueT]), if_neg (by simp [setT, falseT]), if_neg (by rw [e]; simp), if_neg (by rw [e]; simp), if_pos e, set_read h]
    rfl
  | day h1 h2 =>
    show guessF (dayT n) = _
    have e : (dayT n).head? = some 64 := by simp [dayT]
    unfold guessF
    rw [if_neg (by simp [dayT]), if_neg (by simp [dayT]), if_neg (by simp [dayT, trueT]), if_neg (by simp [dayT, falseT]), if_neg (by rw [e]; simp), if_neg (by rw [e]; simp), if_neg (by rw [e]; simp), if_pos e, day_read h1 h2]
    rfl
  | bool h1 h2 =>
    obtain rfl | rfl : n = 0 ∨ n = 1 := by omega
    all_goals rfl
theorem cand_show {k n : Int} {s : List UInt8} {l : List Int} (h : Snd k n s l) : candF (showT k n s l) = ⟨k, n, s, l⟩ := by
  cases h with
  | none_ => rfl
  | word h1 h2 =>
    obtain rfl | rfl | rfl : n = 1 ∨ n = 2 ∨ n = 3 := by omega
    all_goals rfl
  | num h1 h2 =>
    obtain ⟨a1, a2, a3, a4, a5, a6, a7, a8, a9, a10, a11⟩ := num_not h1 h2
    show candF (numT n) = _
    unfold candF
    rw [if_neg a9, if_neg a10, if_neg a11, if_neg a2, if_neg a3, if_neg a4, if_neg (fun h => a5 h.2), if_neg a6, if_neg a7, if_neg (fun h => a8 h.2), num_dec h1 h2]
  | text s =>
    show candF (textT s) = _
    unfold candF textT
    rw [if_neg (by simp [w1T]), if_neg (by simp [w2T]), if_neg (by simp [w3T]), if_neg (by simp), if_neg (by simp [trueT]), if_neg (by simp [falseT]), if_pos (by simp)]
    have e : ((39 :: replaceAll s [39] [39, 39] ++ [39]).take ((39 :: replaceAll s [39] [39, 39] ++ [39]).length - 1)).drop 1 = replaceAll s [39] [39, 39] := by
      generalize replaceAll s [39] [39, 39] = E
      have hl : (39 :: E ++ [39]).length - 1 = (39 :: E).length := by simp
      rw [hl, List.take_left]
      rfl
    rw [e, back]
  | code h1 h2 =>
    show candF (codeT n) = _
    rw [code_nat (by omega)]
    unfold candF
    rw [if_neg (by simp [w1T]), if_neg (by simp [w2T]), if_neg (by simp [w3T]), if_neg (by simp), if_neg (by simp [trueT]), if_neg (by simp [falseT]), if_neg (by simp), if_pos (by simp)]
    simp only [List.tail_cons]
    rw [atoiN_dec (Nat.lt_of_le_of_lt (show n.toNat ≤ 999 by omega) (by decide)), show ((n.toNat : Nat) : Int) = n by omega]
  | set h =>
    show candF (setT l) = _
    have e : (setT l).head? = some 123 := by simp [setT]
    unfold candF
    rw [if_neg (by simp [setT, w1T]), if_neg (by simp [setT, w2T]), if_neg (by simp [setT, w3T]), if_neg (by simp [setT]), if_neg (by simp [setT, trueT]), if_neg (by simp [setT, falseT]), if_neg (by rw [e]; simp), if_neg (by rw [e]; simp), if_pos e, set_cand h]
  | day h1 h2 =>
    show candF (dayT n) = _
    have e : (dayT n).head? = some 64 := by simp [dayT]
    obtain ⟨d1, d2, d3⟩ := day_cand h1 h2
    unfold candF
    rw [if_neg (by simp [dayT, w1T]), if_neg (by simp [dayT, w2T]), if_neg (by simp [dayT, w3T]), if_neg (by simp [dayT]), if_neg (by simp [dayT, trueT]), if_neg (by simp [dayT, falseT]), if_neg (by rw [e]; simp), if_neg (by rw [e]; simp), if_neg (by rw [e]; simp), if_pos ⟨d1, e⟩, d2, d3]
  | bool h1 h2 =>
    obtain rfl | rfl : n = 0 ∨ n = 1 := by omega
    all_goals rfl
end Go.Proofs.YthnknmkekbledaaGreatDoor.Vtx
