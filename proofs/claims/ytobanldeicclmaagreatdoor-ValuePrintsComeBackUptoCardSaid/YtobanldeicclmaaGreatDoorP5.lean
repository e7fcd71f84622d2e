/- Read's readers give back what Show writes. The plain mathematics: no program in sight. · Both readers give back what Show writes, for every sound value. The plain mathematics: no program in sight. · The walks of whole, padded, showNumber: digits read and written. · The walks of padded and showNumber. · The walks of strings.Cut and Split in this family's words; readNumber. · The walk of showSet. · The walks of the functions of days, in both packages. Conditions: years from 0 to 10000 (leap), 1600 to 2400 (number). -/
import Derived.Test.YtobanldeicclmaaGreatDoorP4
import Derived.Test.YtobanldeicclmaaGreatDoorPSh
import Derived.Test.YtobanldeicclmaaGreatDoorP1
import Derived.Lib.AppendIntMem
import Derived.Outline
namespace Go.Proofs.YtobanldeicclmaaGreatDoor.Vtx
open Go.Lib Dig
theorem trimRight_split (l : List UInt8) (c : UInt8) : ∃ k, l = trimRightB l c ++ List.replicate k c := by
  have h := List.takeWhile_append_dropWhile (p := fun b : UInt8 => b == c) (l := l.reverse)
  have hr : l = (l.reverse.dropWhile (· == c)).reverse ++ (l.reverse.takeWhile (· == c)).reverse := by
    have := congrArg List.reverse h
    rw [List.reverse_append, List.reverse_reverse] at this
    exact this.symm
  refine ⟨(l.reverse.takeWhile (· == c)).length, ?_⟩
  have hk : (l.reverse.takeWhile (· == c)).reverse = List.replicate (l.reverse.takeWhile (· == c)).length c := by
    rw [List.eq_replicate_iff]
    refine ⟨by simp, fun b hb => ?_⟩
    have := List.all_eq_true.1 (List.all_takeWhile (p := fun b : UInt8 => b == c) (l := l.reverse)) b (List.mem_reverse.1 hb)
    simpa using this
  rw [← hk]
  exact hr
theorem frac_pad {m : Nat} (h : m < 10000) : padR (fracT m) 4 = padT 4 m ∧ (fracT m).length ≤ 4 := by
  have hl : (decDigits m).length ≤ 4 := dec_len 3 m h
  obtain ⟨k, hk⟩ := trimRight_split (padT 4 m) 48
  have hlen := pad_len hl
  have e := congrArg List.length hk
  rw [hlen] at e
  simp only [List.length_append, List.length_replicate] at e
  unfold padR fracT
  refine ⟨?_, by omega⟩
  rw [show 4 - (trimRightB (padT 4 (m : Int)) 48).length = k by omega]
  exact hk.symm
theorem frac_dig (m : Nat) : ∀ b ∈ fracT m, isDig b := by
  intro b hb
  obtain ⟨k, hk⟩ := trimRight_split (padT 4 m) 48
  exact pad_dig 4 m b (by rw [hk]; exact List.mem_append_left _ hb)
/-- the number's parts -/
theorem num_parts {n : Int} (h1 : -999999999999999 ≤ n) (h2 : n ≤ 999999999999999) : ∃ F M : Nat, F ≤ 99999999999 ∧ M < 10000 ∧ absI n = ((F * 10000 + M : Nat) : Int) ∧
    numT n = (if n < 0 then [45] else []) ++ decDigits F ++ (if fracT M = [] then [] else 46 :: fracT M) := by
  have ha : 0 ≤ absI n ∧ absI n ≤ 999999999999999 := by unfold absI; split <;> omega
  refine ⟨(absI n).toNat / 10000, (absI n).toNat % 10000, by omega, by omega, by omega, ?_⟩
  have e1 : absI n / 10000 = (((absI n).toNat / 10000 : Nat) : Int) := by omega
  have e2 : absI n % 10000 = (((absI n).toNat % 10000 : Nat) : Int) := by omega
  unfold numT
  rw [e1, e2, itoa_nat]
theorem dec_head_dig (F : Nat) : ∃ b r, decDigits F = b :: r ∧ isDig b := by
  cases h : decDigits F with
  | nil => exact absurd h (dec_ne F)
  | cons b r => exact ⟨b, r, rfl, dig_dec F b (by rw [h]; exact List.mem_cons_self ..)⟩
theorem dig_byte {b : UInt8} (h : isDig b) {c : UInt8} (hc : ¬ isDig c) : b ≠ c := fun e => hc (e ▸ h)
theorem pre45_dig {l : List UInt8} {b : UInt8} {r : List UInt8} (e : l = b :: r) (h : isDig b) : hasPrefix l [45] = false := by
  subst e
  simp [hasPrefix, List.isPrefixOf]
  exact fun e => dig_byte h nd45 e.symm
theorem trim45_dig {l : List UInt8} {b : UInt8} {r : List UInt8} (e : l = b :: r) (h : isDig b) : trimPrefix l [45] = l := by
  unfold trimPrefix; rw [pre45_dig e h]; simp
theorem trim45_neg (l : List UInt8) : trimPrefix ([45] ++ l) [45] = l ∧ hasPrefix ([45] ++ l) [45] = true := by
  have h : hasPrefix ([45] ++ l) [45] = true := by simp [hasPrefix, List.isPrefixOf]
  exact ⟨by unfold trimPrefix; rw [if_pos h]; rfl, h⟩
theorem cut_num (F M : Nat) : (cut (decDigits F ++ (if fracT M = [] then [] else 46 :: fracT M)) [46]).1 = decDigits F ∧ (cut (decDigits F ++ (if fracT M = [] then [] else 46 :: fracT M)) [46]).2.1 = fracT M := by
  have hF : (46 : UInt8) ∉ decDigits F := dig_ne (dig_dec F) nd46
  by_cases h : fracT M = []
  · rw [if_pos h, List.append_nil, cut_none hF, h]; exact ⟨rfl, rfl⟩
  · rw [if_neg h, cut_at _ hF]; exact ⟨rfl, rfl⟩
theorem num_read {n : Int} (h1 : -999999999999999 ≤ n) (h2 : n ≤ 999999999999999) : readNumF (numT n) = some n := by
  obtain ⟨F, M, hF, hM, hA, e⟩ := num_parts h1 h2
  obtain ⟨c1, c2⟩ := cut_num F M
  obtain ⟨p1, p2⟩ := frac_pad hM
  have wF := whole_dec (n := F) (by have := dec_len 10 F (by omega); omega)
  have wM := whole_pad (w := 4) (n := M) (dec_len 3 M hM) (by decide)
  have lM := pad_len (w := 4) (n := M) (dec_len 3 M hM)
  have key : ∀ s, trimPrefix s [45] = decDigits F ++ (if fracT M = [] then [] else 46 :: fracT M) → readNumF s = some (if (decDigits F ++ (if fracT M = [] then [] else 46 :: fracT M)).length < s.length then -((F * 10000 + M : Nat) : Int) else ((F * 10000 + M : Nat) : Int)) := by
    intro s hs
    unfold readNumF
    simp only [hs, c1, c2, p1, wF, wM, lM]
    rw [if_pos ⟨trivial, trivial, by decide, hF⟩]
  by_cases hn : n < 0
  · rw [if_pos hn, List.append_assoc] at e
    rw [key _ (by rw [e]; exact (trim45_neg _).1), e, if_pos (by simp), ← hA]
    unfold absI; rw [if_pos hn]; simp
  · rw [if_neg hn, List.nil_append] at e
    obtain ⟨b, r, hb, hd⟩ := dec_head_dig F
    rw [key _ (by rw [e]; exact trim45_dig (by rw [hb]; rfl) hd), e, if_neg (by omega), ← hA]
    unfold absI; rw [if_neg hn]
end Go.Proofs.YtobanldeicclmaaGreatDoor.Vtx
namespace Go.Proofs.YtobanldeicclmaaGreatDoor.Vtx
open Go.Lib Dig
theorem code_nat {c : Int} (h : 0 ≤ c) : codeT c = 35 :: decDigits c.toNat := by
  unfold codeT
  obtain ⟨m, rfl⟩ : ∃ m : Nat, c = m := ⟨c.toNat, by omega⟩
  rw [itoa_nat]; simp
theorem code_no {c : Int} (h : 0 ≤ c) {x : UInt8} (hx : ¬ isDig x) (h35 : x ≠ 35) : x ∉ codeT c := by
  rw [code_nat h]
  intro hm
  rcases List.mem_cons.1 hm with e | e
  · exact h35 e
  · exact hx (dig_dec _ x e)
theorem trim35 (l : List UInt8) : trimPrefix (35 :: l) [35] = l := by simp [trimPrefix, hasPrefix, List.isPrefixOf]
theorem codes_back : ∀ {l : List Int}, (∀ c ∈ l, 1 ≤ c ∧ c ≤ 999) → codesF (l.map codeT) = some l
  | [], _ => rfl
  | c :: r, h => by
    have hc := h c (List.mem_cons_self ..)
    have hw := whole_dec (n := c.toNat) (by have := dec_len 2 c.toNat (by omega); omega)
    simp only [List.map_cons, codesF]
    rw [code_nat (by omega), trim35, hw, if_pos rfl, codes_back (fun x hx => h x (List.mem_cons_of_mem _ hx))]
    simp
    omega
theorem join_codes {c : Int} {r : List Int} (h : ∀ x ∈ c :: r, 1 ≤ x ∧ x ≤ 999) : (∃ t, join ((c :: r).map codeT) [44] = 35 :: t) ∧ (∃ t b, join ((c :: r).map codeT) [44] = t ++ [b] ∧ isDig b) := by
  have hd : ∀ (c : Int), 1 ≤ c → ∃ t b, codeT c = t ++ [b] ∧ isDig b := by
    intro c hc
    rw [code_nat (by omega)]
    have hne := dec_ne c.toNat
    refine ⟨35 :: (decDigits c.toNat).dropLast, (decDigits c.toNat).getLast hne, ?_, dig_dec _ _ (List.getLast_mem hne)⟩
    rw [List.cons_append, List.dropLast_concat_getLast]
  constructor
  · rw [List.map_cons, join_cons, code_nat (by have := h c (List.mem_cons_self ..); omega)]
    exact ⟨_, rfl⟩
  · induction r generalizing c with
    | nil =>
      rw [List.map_cons, List.map_nil, join_one]
      exact hd c (h c (List.mem_cons_self ..)).1
    | cons d r ih =>
      obtain ⟨t, b, e, hb⟩ := ih (c := d) (fun x hx => h x (List.mem_cons_of_mem _ hx))
      have e2 : join ((c :: d :: r).map codeT) [44] = codeT c ++ 44 :: join ((d :: r).map codeT) [44] := by
        simp only [List.map_cons]
        rw [join_cons, join_cons]; simp [joinTail]
      rw [e2, e]
      exact ⟨codeT c ++ 44 :: t, b, by simp, hb⟩
theorem inner_set (l : List Int) : innerF (setT l) = join (l.map codeT) [44] := by
  unfold innerF setT
  have h1 : trimPrefix (123 :: join (l.map codeT) [44] ++ [125]) [123] = join (l.map codeT) [44] ++ [125] := by simp [trimPrefix, hasPrefix, List.isPrefixOf]
  rw [h1]
  have h2 : hasSuffix (join (l.map codeT) [44] ++ [125]) [125] = true := by
    unfold hasSuffix
    rw [List.isSuffixOf_iff_suffix]
    exact ⟨_, rfl⟩
  unfold trimSuffix
  rw [if_pos h2]
  simp
theorem codes_no {l : List Int} (h : ∀ c ∈ l, 1 ≤ c ∧ c ≤ 999) : ∀ p ∈ l.map codeT, (44 : UInt8) ∉ p := by
  intro p hp
  obtain ⟨c, hc, rfl⟩ := List.mem_map.1 hp
  exact code_no (by have := h c hc; omega) nd44 (by decide)
theorem set_read {l : List Int} (h : ∀ c ∈ l, 1 ≤ c ∧ c ≤ 999) : readSetF (setT l) = some l := by
  unfold readSetF
  rw [inner_set]
  cases l with
  | nil => rfl
  | cons c r =>
    obtain ⟨⟨t, ht⟩, -⟩ := join_codes h
    rw [if_neg (by rw [ht]; simp), split_join (by simp) (codes_no h), codes_back h]
theorem day_parts {n : Int} (h1 : -25567 ≤ n) (h2 : n ≤ 84005) : ∃ y m d : Nat, Cal.cy n = y ∧ Cal.cm n = m ∧ Cal.cd n = d ∧ y < 10000 ∧ m < 100 ∧ d < 100 ∧ Cal.okDate y m d = true ∧ Cal.num y m d = n := by
  have h := Cal.civ_spec h1 h2
  have hr := Cal.range_year h1 h2 h.year.1 h.year.2
  have hb := Cal.dim_bd (Cal.cy n) (Cal.cm n)
  have hm1 := h.m1
  have hm2 := h.m2
  have hd1 := h.d1
  have hd2 := h.d2
  have hok : Cal.okDate (Cal.cy n) (Cal.cm n) (Cal.cd n) = true := by rw [Cal.okDate_iff]; exact ⟨hr, ⟨h.m1, h.m2⟩, h.d1, h.d2⟩
  have ey : Cal.cy n = ((Cal.cy n).toNat : Int) := by omega
  have em : Cal.cm n = ((Cal.cm n).toNat : Int) := by omega
  have ed : Cal.cd n = ((Cal.cd n).toNat : Int) := by omega
  refine ⟨(Cal.cy n).toNat, (Cal.cm n).toNat, (Cal.cd n).toNat, ey, em, ed, by omega, by omega, by omega, ?_, ?_⟩
  · rw [← ey, ← em, ← ed]; exact hok
  · rw [← ey, ← em, ← ed]; exact h.eq
theorem day_read {n : Int} (h1 : -25567 ≤ n) (h2 : n ≤ 84005) : readDayF (dayT n).tail = some n := by
  obtain ⟨y, m, d, ey, em, ed, hy, hm, hd, hok, hn⟩ := day_parts h1 h2
  have ly := dec_len 3 y hy
  have lm := dec_len 1 m hm
  have ld := dec_len 1 d hd
  have e : (dayT n).tail = padT 4 y ++ 45 :: (padT 2 m ++ 45 :: padT 2 d) := by
    unfold dayT
    rw [ey, em, ed]
    simp
  unfold readDayF
  rw [e, split_at _ (dig_ne (pad_dig 4 y) nd45), split_at _ (dig_ne (pad_dig 2 m) nd45), split_one (dig_ne (pad_dig 2 d) nd45)]
  simp only [whole_pad ly (by decide), whole_pad lm (by decide), whole_pad ld (by decide)]
  rw [if_pos (by simp [hok]), hn]
theorem num_head {n : Int} (h1 : -999999999999999 ≤ n) (h2 : n ≤ 999999999999999) : ∃ b r, numT n = b :: r ∧ (isDig b ∨ (b = 45 ∧ ∃ c t, r = c :: t)) := by
  obtain ⟨F, M, hF, hM, hA, e⟩ := num_parts h1 h2
  obtain ⟨b, r, hb, hd⟩ := dec_head_dig F
  by_cases hn : n < 0
  · rw [if_pos hn, hb] at e
    exact ⟨45, _, by rw [e]; rfl, .inr ⟨rfl, _, _, rfl⟩⟩
  · rw [if_neg hn, hb] at e
    exact ⟨b, _, by rw [e]; rfl, .inl hd⟩
theorem num_not {n : Int} (h1 : -999999999999999 ≤ n) (h2 : n ≤ 999999999999999) : numT n ≠ [] ∧ numT n ≠ [45] ∧ numT n ≠ trueT ∧ numT n ≠ falseT ∧ (numT n).head? ≠ some 39 ∧ (numT n).head? ≠ some 35 ∧ (numT n).head? ≠ some 123 ∧ (numT n).head? ≠ some 64 ∧ numT n ≠ w1T ∧ numT n ≠ w2T ∧ numT n ≠ w3T := by
  obtain ⟨b, r, e, h⟩ := num_head h1 h2
  rw [e]
  have hne : ∀ c : UInt8, ¬ isDig c → c ≠ 45 → b ≠ c := by
    intro c hc hc' hb
    rcases h with h | ⟨h, -⟩
    · exact hc (hb ▸ h)
    · exact hc' (hb ▸ h)
  have k : ∀ c : UInt8, ¬ isDig c → c ≠ 45 → ∀ t, b :: r ≠ c :: t := fun c h1 h2 t e => hne c h1 h2 (List.cons.inj e).1
  have hh : ∀ c : UInt8, ¬ isDig c → c ≠ 45 → (b :: r).head? ≠ some c := fun c h1 h2 e => hne c h1 h2 (by simpa using e)
  refine ⟨by simp, ?_, k _ (by unfold isDig; decide) (by decide) _, k _ (by unfold isDig; decide) (by decide) _, hh _ (by unfold isDig; decide) (by decide), hh _ (by unfold isDig; decide) (by decide), hh _ (by unfold isDig; decide) (by decide), hh _ (by unfold isDig; decide) (by decide), k _ (by unfold isDig; decide) (by decide) _, k _ (by unfold isDig; decide) (by decide) _, k _ (by unfold isDig; decide) (by decide) _⟩
  intro e2
  rcases h with h | ⟨-, c, t, hr⟩
  · exact nd45 ((List.cons.inj e2).1 ▸ h)
  · rw [hr] at e2; cases (List.cons.inj e2).2
theorem text_tail (s : List UInt8) : trimSuffix (replaceAll s [39] [39, 39] ++ [39]) [39] = replaceAll s [39] [39, 39] := by
  have h2 : hasSuffix (replaceAll s [39] [39, 39] ++ [39]) [39] = true := by
    unfold hasSuffix
    rw [List.isSuffixOf_iff_suffix]
    exact ⟨_, rfl⟩
  unfold trimSuffix
  rw [if_pos h2]
  simp
theorem guess_show {k n : Int} {s : List UInt8} {l : List Int} (h : Snd k n s l) : guessF (showT k n s l) = some ⟨k, n, s, l⟩ := by
  cases h with
  | none_ => decide +kernel
  | word h1 h2 =>
    obtain rfl | rfl | rfl : n = 1 ∨ n = 2 ∨ n = 3 := by omega
    all_goals rfl
  | num h1 h2 =>
    obtain ⟨a1, a2, a3, a4, a5, a6, a7, a8, a9, a10, a11⟩ := num_not h1 h2
    show guessF (numT n) = _
    unfold guessF
    rw [if_neg a1, if_neg a2, if_neg a3, if_neg a4, if_neg a5, if_neg a6, if_neg a7, if_neg a8, if_neg a9, if_neg a10, if_neg a11, num_read h1 h2]
    rfl
  | text s =>
    show guessF (textT s) = _
    unfold guessF textT
    rw [if_neg (by simp), if_neg (by simp), if_neg (by simp [trueT]), if_neg (by simp [falseT]), if_pos (by simp)]
    simp only [List.cons_append, List.tail_cons]
    rw [text_tail, back]
  | code h1 h2 =>
    show guessF (codeT n) = _
    have hw := whole_dec (n := n.toNat) (by have := dec_len 2 n.toNat (by omega); omega)
    rw [code_nat (by omega)]
    unfold guessF
    rw [if_neg (by simp), if_neg (by simp), if_neg (by simp [trueT]), if_neg (by simp [falseT]), if_neg (by simp), if_pos (by simp)]
    simp only [List.tail_cons, hw, if_true]
    rw [show ((n.toNat : Nat) : Int) = n by omega]
  | set h =>
    show guessF (setT l) = _
    have e : (setT l).head? = some 123 := by simp [setT]
    unfold guessF
    rw [if_neg (by simp [setT]), if_neg (by simp [setT]), if_neg (by simp [setT, trueT]), if_neg (by simp [setT, falseT]), if_neg (by rw [e]; simp), if_neg (by rw [e]; simp), if_pos e, set_read h]
    rfl
  | day h1 h2 =>
    show guessF (dayT n) = _
    have e : (dayT n).head? = some 64 := by simp [dayT]
    unfold guessF
    rw [if_neg (by simp [dayT]), if_neg (by simp [dayT]), if_neg (by simp [dayT, trueT]), if_neg (by simp [dayT, falseT]), if_neg (by rw [e]; simp), if_neg (by rw [e]; simp), if_neg (by rw [e]; simp), if_pos e, day_read h1 h2]
    rfl
  | bool h1 h2 =>
    obtain rfl | rfl : n = 0 ∨ n = 1 := by omega
    all_goals rfl
end Go.Proofs.YtobanldeicclmaaGreatDoor.Vtx
namespace Go.Proofs.YtobanldeicclmaaGreatDoor
open Go.RowKit Dig Vtx
theorem ba_of {t : ByteArray} {l : List UInt8} (h : t.data.toList = l) : t = ⟨l.toArray⟩ := by subst h; rfl
theorem dsize {t : ByteArray} {l : List UInt8} (h : t.data.toList = l) : t.size = l.length := by rw [← h]; rfl
theorem toList_app (a b : ByteArray) : (a ++ b).data.toList = a.data.toList ++ b.data.toList := by rw [ByteArray.data_append, Array.toList_append]
def wholeV (l : List UInt8) : Value := .tuple #[.int .i64 ((wholeF l).1 : Nat), .bool (wholeF l).2]
theorem wholeV_no {l : List UInt8} (h : l = [] ∨ 15 < l.length) : wholeV l = .tuple #[.int .i64 0, .bool false] := by unfold wholeV wholeF; rw [if_pos h]; rfl
theorem wholeV_bad {l : List UInt8} (h : l.all digB = false) : wholeV l = .tuple #[.int .i64 0, .bool false] := by
  unfold wholeV wholeF
  split
  · rfl
  · rw [h]; rfl
theorem wholeV_ok {l : List UInt8} (h0 : l ≠ []) (h1 : l.length ≤ 15) (h : l.all digB = true) : wholeV l = .tuple #[.int .i64 (digVal l : Nat), .bool true] := by
  unfold wholeV wholeF
  rw [if_neg (by simp [h0]; omega), if_pos h]
theorem digVal_bd : ∀ (l : List UInt8), l.all digB = true → digVal l < 10 ^ l.length := by
  intro l
  induction l with
  | nil => intro _; decide
  | cons b r ih =>
    intro h
    rw [List.all_cons, Bool.and_eq_true] at h
    have := ih h.2
    have hb := h.1
    simp only [digB, Bool.and_eq_true, decide_eq_true_eq] at hb
    rw [digVal_cons, List.length_cons, Nat.pow_succ]
    have : (b.toNat - 48) * 10 ^ r.length ≤ 9 * 10 ^ r.length := Nat.mul_le_mul_right _ (by omega)
    omega
theorem str_get {s : ByteArray} {k : Nat} (h : k < s.size) : ∃ h' : k < s.data.toList.length, s.data.toList[k] = s[k] := ⟨by simpa using h, rfl⟩
set_option maxHeartbeats 1000000 in
set_option maxRecDepth 100000 in
theorem whole_any (s : ByteArray) (w : World) :
    Calls Tryz.prog 187 #[.string s] w fun e w' => e = .returned (wholeV s.data.toList) ∧ w = w' := by
  by_cases h0 : s = ⟨#[]⟩
  · subst h0
    go_enter Tryz.func187, Tryz.ntmps187
    go_wp2
    go_ret2
    exact ⟨ret_val (wholeV_no (.inl rfl)).symm, rfl⟩
  have hne : s.data.toList ≠ [] := fun e => h0 (ba_of e)
  have se : s.toList.isEmpty = false := by rw [ByteArray.toList_eq]; simpa using hne
  have hsl : s.data.toList.length = s.size := rfl
  by_cases h1 : 15 < s.size
  · have HE := Lib.hid (wholeV_no (l := s.data.toList) (.inr (by rw [hsl]; exact h1)))
    clear hne hsl h0
    go_enter Tryz.func187, Tryz.ntmps187
    go_wp2
    go_ret2
    exact ⟨ret_val HE.out.symm, rfl⟩
  have hs : s.size ≤ 15 := by omega
  have HNE := Lib.hid hne
  have HSL := Lib.hid hsl
  clear hne hsl h0 h1
  go_enter Tryz.func187, Tryz.ntmps187
  go_wp2
  go_loop [4, 5] (fun n i => ∃ k v : Nat, k ≤ s.size ∧ i = .int .i64 (k : Int) ∧ n = .int .i64 (v : Int) ∧ v ≤ 1000000000000000 ∧ Hid (v = digVal (s.data.toList.take k) ∧ (s.data.toList.take k).all digB = true)) (fun _ i => s.size - (intOf i).toNat)
  case atStart => exact ⟨0, 0, Nat.zero_le _, rfl, rfl, by omega, Lib.hid ⟨rfl, rfl⟩⟩
  case round =>
    obtain ⟨k, v, hk, rfl, rfl, hv, HD⟩ := hrel
    by_cases hlt : k < s.size
    · obtain ⟨h', hg⟩ := str_get hlt
      obtain ⟨b, hb⟩ : ∃ b, s[k] = b := ⟨_, rfl⟩
      have HB := Lib.hid hb
      have HTK := Lib.hid (show s.data.toList.take (k + 1) = s.data.toList.take k ++ [b] by rw [List.take_succ_eq_append_getElem h', hg, hb])
      have HBad := Lib.hid (show digB b = false → s.data.toList.all digB = false from fun h => by
        rw [Bool.eq_false_iff]
        intro e
        rw [List.all_eq_true] at e
        have := e s.data.toList[k] (List.getElem_mem h')
        rw [hg, hb, h] at this
        cases this)
      clear hg
      by_cases h1 : ((s[k].toNat : Nat) : Int) < 48
      · have HF := Lib.hid (wholeV_bad (HBad.out (by rw [← HB.out]; unfold digB; simp; omega)))
        clear hb
        go_wp2
        go_ret2
        exact ⟨ret_val HF.out.symm, rfl⟩
      · by_cases h2 : 57 < ((s[k].toNat : Nat) : Int)
        · have HF := Lib.hid (wholeV_bad (HBad.out (by rw [← HB.out]; unfold digB; simp; omega)))
          clear hb
          go_wp2
          go_ret2
          exact ⟨ret_val HF.out.symm, rfl⟩
        · have hda : (s.data.toList.take (k + 1)).all digB = true := by
            rw [HTK.out, List.all_append, HD.out.2, List.all_cons, ← HB.out]
            unfold digB
            simp
            omega
          have hdv : v * 10 + (s[k].toNat - 48) = digVal (s.data.toList.take (k + 1)) := by rw [HTK.out, digVal_snoc, ← HD.out.1, ← HB.out]
          have hbd := digVal_bd _ hda
          have hle : digVal (s.data.toList.take (k + 1)) ≤ 1000000000000000 := by
            have : 10 ^ (s.data.toList.take (k + 1)).length ≤ 10 ^ 15 := Nat.pow_le_pow_right (by omega) (by rw [List.length_take, HSL.out]; omega)
            omega
          rw [← hdv] at hle
          have HN := Lib.hid (And.intro hdv hda)
          have hge : 48 ≤ s[k].toNat := by omega
          clear hb hda hdv hbd
          go_wp2
          go_round
          case rel => exact ⟨k + 1, v * 10 + (s[k].toNat - 48), by omega, by go_num, by first | go_num | (congr 1; omega), hle, HN⟩
          case measure => simp [intOf]; omega
    · have HA := Lib.hid (show wholeV s.data.toList = .tuple #[.int .i64 (v : Nat), .bool true] by
        have h := HD.out
        rw [List.take_of_length_le (by rw [HSL.out]; omega)] at h
        rw [wholeV_ok HNE.out (by rw [HSL.out]; omega) h.2, h.1])
      go_wp2
      go_ret2
      exact ⟨ret_val HA.out.symm, rfl⟩
abbrev Tab (w : World) : Prop := Lib.TabIs Tryz.prog w "internal/strconv.uint64pow10" .u64 Lib.pow10Tab
theorem Tab.below {w w' : World} (h : Tab w) (hb : Below w.heap.size w w') : Tab w' := by
  unfold Tab Lib.TabIs World.var? at *
  cases hg : Tryz.prog.globalNamed "internal/strconv.uint64pow10" with
  | none => rw [hg] at h; cases h
  | some g =>
    rw [hg] at h
    simp only [Option.bind_some] at h ⊢
    have hlt : g < w.heap.size := by
      rcases Nat.lt_or_ge g w.heap.size with h' | h'
      · exact h'
      · rw [Array.getElem?_eq_none h'] at h; cases h
    rw [hb.block g hlt]
    exact h
theorem itoa_any (n : Int) (w : World) (h0 : -9223372036854775808 ≤ n) (h1 : n ≤ 9223372036854775807) (htab : Tab w) :
    Calls Tryz.prog 44 #[.int .i64 n] w fun e w' => (∃ t : ByteArray, e = .returned (.string t) ∧ t.data.toList = Lib.itoa n) ∧ Below w.heap.size w w' :=
  (Tryz.strconv_Itoa n h0 h1 w htab).mono fun _ _ ⟨he, _, _, hw⟩ => ⟨⟨_, he, rfl⟩, hw ▸ Lib.below_grow _ w (Nat.le_refl _) _ _⟩
end Go.Proofs.YtobanldeicclmaaGreatDoor
namespace Go.Proofs.YtobanldeicclmaaGreatDoor
open Go.RowKit Dig Vtx
def strLen (v : Value) : Nat := match v with
  | .string t => t.size
  | _ => 0
set_option maxHeartbeats 1000000 in
theorem padded_any (n : Int) (W : Nat) (w : World) (h0 : 0 ≤ n) (h1 : n ≤ 9223372036854775807) (hW : W ≤ 20) (htab : Tab w) :
    Calls Tryz.prog 47 #[.int .i64 n, .int .i64 (W : Nat)] w fun e w' => (∃ t : ByteArray, e = .returned (.string t) ∧ t.data.toList = padT W n) ∧ Below w.heap.size w w' := by
  have HT := Lib.hid htab
  clear htab
  go_enter Tryz.func47, Tryz.ntmps47
  go_wp2_with fail
  refine (itoa_any n w (by omega) h1 HT.out).mono ?_
  rintro e w1 ⟨⟨t0, rfl, ht0⟩, hb1⟩
  obtain ⟨L, hL⟩ : ∃ L, (Lib.itoa n).length = L := ⟨_, rfl⟩
  have HT0 := Lib.hid ht0
  have hLb : L ≤ 20 := by
    obtain ⟨m, rfl⟩ : ∃ m : Nat, n = m := ⟨n.toNat, by omega⟩
    rw [itoa_nat] at hL
    have := dec_len 18 m (by omega)
    omega
  have HL := Lib.hid hL
  clear ht0 hL
  go_wp2_with (fail)
  go_loop [5] (fun s => ∃ (t : ByteArray) (k : Nat), s = .string t ∧ Hid (t.data.toList = zeros k ++ Lib.itoa n) ∧ k ≤ W - L) (fun s => W - strLen s)
  case atStart => exact ⟨t0, 0, rfl, Lib.hid HT0.out, Nat.zero_le _⟩
  case round =>
    obtain ⟨t, k, rfl, HTT, hk⟩ := hrel
    have hsz : t.size = k + L := by
      have : t.data.toList.length = k + L := by rw [HTT.out]; simp [zeros, HL.out]
      exact this
    have hs1 : t.size ≤ k + L := by omega
    have hs2 : k + L ≤ t.size := by omega
    clear hsz
    by_cases hlt : t.size < W
    · go_wp2_with (fail)
      go_round
      case rel =>
        refine ⟨⟨#[48]⟩ ++ t, k + 1, rfl, Lib.hid ?_, by omega⟩
        rw [toList_app, HTT.out, show zeros (k + 1) = 48 :: zeros k from rfl]
        rfl
      case measure =>
        have : (⟨#[48]⟩ ++ t : ByteArray).size = t.size + 1 := by rw [ByteArray.size_append]; show 1 + t.size = _; omega
        simp [strLen, this]
        omega
    · have HTP := Lib.hid (show t.data.toList = padT W n by
        rw [HTT.out]
        unfold padT
        rw [HL.out, show k = W - L by omega])
      clear HTT HT0 HL
      go_wp2
      go_ret
      exact ⟨⟨_, rfl, HTP.out⟩, hb1⟩
theorem trim_right0 (t : ByteArray) (w : World) (h : t.size ≤ 100) :
    Calls Tryz.prog 67 #[.string t, .string ⟨#[48]⟩] w fun e w' => (∃ u : ByteArray, e = .returned (.string u) ∧ u.data.toList = Lib.trimRightB t.data.toList 48) ∧ w = w' :=
  (Tryz.strings_TrimRight_one t 48 (by decide) w (by omega)).mono fun _ _ ⟨he, hw⟩ => ⟨⟨_, he, rfl⟩, hw.symm⟩
set_option maxHeartbeats 1000000 in
theorem showNumber_any (n : Int) (w : World) (h1 : -999999999999999 ≤ n) (h2 : n ≤ 999999999999999) (htab : Tab w) :
    Calls Tryz.prog 42 #[.int .i64 n] w fun e w' => (∃ t : ByteArray, e = .returned (.string t) ∧ t.data.toList = numT n) ∧ Below w.heap.size w w' := by
  have HT := Lib.hid htab
  clear htab
  obtain ⟨a, ha⟩ : ∃ a, absI n = a := ⟨_, rfl⟩
  have hab : 0 ≤ a ∧ a ≤ 999999999999999 := by rw [← ha]; unfold absI; split <;> omega
  obtain ⟨ha0, ha1⟩ := hab
  obtain ⟨F, hF⟩ : ∃ F, a / 10000 = F := ⟨_, rfl⟩
  obtain ⟨M, hM⟩ : ∃ M, a % 10000 = M := ⟨_, rfl⟩
  have hF0 : 0 ≤ F := by omega
  have hF1 : F ≤ 99999999999 := by omega
  have hM0 : 0 ≤ M := by omega
  have hM1 : M < 10000 := by omega
  have HN := Lib.hid (show numT n = (if n < 0 then [45] else []) ++ Lib.itoa F ++ (if fracT M = [] then [] else 46 :: fracT M) by unfold numT; rw [ha, hF, hM])
  have HI := Lib.hid (show (Lib.itoa F).length ≤ 11 by
    obtain ⟨m, rfl⟩ : ∃ m : Nat, F = m := ⟨F.toNat, by omega⟩
    rw [itoa_nat]
    exact dec_len 10 m (by omega))
  have HFR := Lib.hid (show (padT 4 M).length = 4 ∧ (fracT M).length ≤ 4 by
    obtain ⟨m, rfl⟩ : ∃ m : Nat, M = m := ⟨M.toNat, by omega⟩
    exact ⟨pad_len (dec_len 3 m (by omega)), (frac_pad (by omega)).2⟩)
  have HA := Lib.hid ha
  have HFD := Lib.hid hF
  have HMD := Lib.hid hM
  clear ha hF hM
  go_enter Tryz.func42, Tryz.ntmps42
  go_upto_if 7 with (fail)
  go_cut [0, 3] (fun v s wx => v = .int .i64 a ∧ (∃ sg : ByteArray, s = .string sg ∧ Hid (sg.data.toList = if n < 0 then [45] else []) ∧ sg.size ≤ 1) ∧ wx = w)
  case first =>
    by_cases hn : n < 0
    · have hx := Lib.hid (show a = -n by rw [← HA.out]; unfold absI; rw [if_pos hn])
      go_wp2_with (fail)
      go_meet
      exact ⟨by rw [hx.out], ⟨_, rfl, Lib.hid (by rw [if_pos (by omega)]), by decide⟩, rfl⟩
    · have hx := Lib.hid (show a = n by rw [← HA.out]; unfold absI; rw [if_neg hn])
      go_wp2_with (fail)
      go_meet
      exact ⟨by rw [hx.out], ⟨_, rfl, Lib.hid (by rw [if_neg (by omega)]), by decide⟩, rfl⟩
  case rest =>
  obtain ⟨rfl, ⟨sg, rfl, HS, hsg⟩, rfl⟩ := hcut
  have eF : a / 10000 = F := HFD.out
  have eM : a % 10000 = M := HMD.out
  go_wp2_with fail
  refine (itoa_any F _ (by omega) (by omega) HT.out).mono ?_
  rintro e w1 ⟨⟨tf, rfl, htf⟩, hb1⟩
  have htl : tf.size ≤ 11 := by rw [dsize htf]; exact HI.out
  have HTF := Lib.hid htf
  have HT1 := Lib.hid (HT.out.below hb1)
  clear htf
  go_wp2_with fail
  refine (padded_any M 4 w1 hM0 (by omega) (by omega) HT1.out).mono ?_
  rintro e w2 ⟨⟨tm, rfl, htm⟩, hb2⟩
  have html : tm.size ≤ 4 := by rw [dsize htm, HFR.out.1]; exact Nat.le_refl _
  have HTM := Lib.hid htm
  have hbw := hb1.trans (hb2.mono hb1.size)
  clear htm hb1 hb2
  go_wp2_with fail
  refine (trim_right0 tm w2 (by omega)).mono ?_
  rintro e w3 ⟨⟨u, rfl, hu⟩, rfl⟩
  rw [HTM.out] at hu
  have hul : u.size ≤ 4 := by rw [dsize hu]; exact HFR.out.2
  have HU := Lib.hid (show u.data.toList = fracT M from hu)
  clear hu
  by_cases h0 : u = ⟨#[]⟩
  · have HE := Lib.hid (show fracT M = [] by rw [← HU.out, h0])
    subst h0
    go_wp2
    go_ret
    exact ⟨⟨_, rfl, by rw [HN.out, toList_app, HS.out, HTF.out, if_pos HE.out, List.append_nil]⟩, hbw⟩
  · have hne : u.data.toList ≠ [] := fun e => h0 (ba_of e)
    have se : u.toList.isEmpty = false := by rw [ByteArray.toList_eq]; simpa using hne
    have HE := Lib.hid (show fracT M ≠ [] by rw [← HU.out]; exact hne)
    clear hne h0
    go_wp2
    go_ret
    exact ⟨⟨_, rfl, by rw [HN.out, toList_app, toList_app, toList_app, HS.out, HTF.out, if_neg HE.out, HU.out]; simp⟩, hbw⟩
end Go.Proofs.YtobanldeicclmaaGreatDoor
namespace Go.Proofs.YtobanldeicclmaaGreatDoor
open Go.RowKit Dig Vtx
/-- the library's own variable holds some number -/
def Mx (w : World) : Prop := ∃ m, w.cell? ⟨0, 0, none⟩ = some (.int .i64 m)
theorem Mx.below {w w' : World} (h : Mx w) (hb : Below w.heap.size w w') : Mx w' := by
  obtain ⟨m, hm⟩ := h
  exact ⟨m, Below.cell_of hb hm⟩
theorem trimPre (s p : ByteArray) (w : World) :
    Calls Tryz.prog 196 #[.string s, .string p] w fun e w' => (∃ t : ByteArray, e = .returned (.string t) ∧ t.data.toList = Lib.trimPrefix s.data.toList p.data.toList) ∧ w = w' :=
  (Tryz.strings_TrimPrefix s p w).mono fun _ _ ⟨he, hw⟩ => ⟨⟨_, he, rfl⟩, hw.symm⟩
theorem cut_any (s : ByteArray) (c : UInt8) (w : World) (hs : s.size ≤ 2000000) (hm : Mx w) :
    Calls Tryz.prog 204 #[.string s, .string ⟨#[c]⟩] w fun e w' => (∃ a b : ByteArray, ∃ f : Bool, e = .returned (.tuple #[.string a, .string b, .bool f]) ∧ a.data.toList = (Lib.cut s.data.toList [c]).1 ∧ b.data.toList = (Lib.cut s.data.toList [c]).2.1) ∧ Below w.heap.size w w' := by
  obtain ⟨m, hm⟩ := hm
  exact (Tryz.strings_Cut s ⟨#[c]⟩ m w (by omega) hm).mono fun _ _ ⟨he, k, hw⟩ => ⟨⟨_, _, _, he, rfl, rfl⟩, hw ▸ (Below.refl _ _).drewN k⟩
theorem split_any (s : ByteArray) (c : UInt8) (w : World) (hs : s.size ≤ 2000000) (hm : Mx w) :
    Calls Tryz.prog 194 #[.string s, .string ⟨#[c]⟩] w fun e w' => ∃ ps : List ByteArray, e = .returned (.slice (some ⟨w.heap.size, 0, none⟩) ps.length ps.length) ∧ w' = w.alloc (.cells (ps.map Value.string).toArray 9) ∧ ps.map (·.data.toList) = Lib.split s.data.toList [c] ∧ ps.length ≤ s.size + 1 := by
  obtain ⟨m, hm⟩ := hm
  refine (Tryz.strings_Split s ⟨#[c]⟩ m w (by omega) hm (Nat.le_refl 1)).mono fun _ _ ⟨he, hw⟩ => ⟨Lib.splitB ⟨#[c]⟩ 0 (Lib.countB s ⟨#[c]⟩) s, ?_, hw, Lib.splitB_data _ _ _ _, ?_⟩
  · rw [he, Lib.splitB_all ⟨#[c]⟩ (Nat.le_refl 1) 0 _ s rfl]
  · rw [Lib.splitB_all ⟨#[c]⟩ (Nat.le_refl 1) 0 _ s rfl]
    have := Lib.countB_le ⟨#[c]⟩ (Nat.le_refl 1) s.size s (Nat.le_refl _)
    omega
theorem wholeV_form (l : List UInt8) : ∃ (a : Nat) (ok : Bool), wholeF l = (a, ok) ∧ wholeV l = .tuple #[.int .i64 (a : Nat), .bool ok] ∧ a ≤ 1000000000000000 := by
  have hb : (wholeF l).1 ≤ 1000000000000000 := by
    unfold wholeF
    split
    · exact Nat.zero_le _
    · rename_i h
      split
      · rename_i hd
        have := digVal_bd l hd
        have : 10 ^ l.length ≤ 10 ^ 15 := Nat.pow_le_pow_right (by omega) (by simp only [not_or] at h; omega)
        show digVal l ≤ _
        omega
      · exact Nat.zero_le _
  exact ⟨_, _, rfl, rfl, hb⟩
/-- a value of one number, or none -/
def optV (k : Int) (o : Option Int) : Value := match o with
  | some n => .tuple #[.agg #[.int .i64 k, .int .i64 n, .string ⟨#[]⟩, .slice none 0 0], .bool true]
  | none => .tuple #[.agg #[.int .i64 0, .int .i64 0, .string ⟨#[]⟩, .slice none 0 0], .bool false]
set_option maxHeartbeats 2000000 in
set_option maxRecDepth 100000 in
theorem readNumber_any (s : ByteArray) (w : World) (hs : s.size ≤ 2000000) (hm : Mx w) :
    Calls Tryz.prog 190 #[.string s] w fun e w' => e = .returned (optV 2 (readNumF s.data.toList)) ∧ Below w.heap.size w w' := by
  have HM := Lib.hid hm
  clear hm
  go_enter Tryz.func190, Tryz.ntmps190
  go_wp2_with fail
  obtain ⟨W, hW⟩ : ∃ W, W = (w.alloc (.cells #[.int .i64 0, .int .i64 0, .string ⟨#[]⟩, .slice none 0 0] 24 (0, 0))) := ⟨_, rfl⟩
  have hbw : Below w.heap.size w W := by rw [hW]; exact ((Below.refl _ w).alloc (Nat.le_refl _) _)
  have B0 : Blk W (w.heap.size) 24 #[.int .i64 0, .int .i64 0, .string ⟨#[]⟩, .slice none 0 0] := by
    rw [hW]
    have := Blk.new w 24 #[.int .i64 0, .int .i64 0, .string ⟨#[]⟩, .slice none 0 0]
    exact this
  have hsz : W.heap.size = w.heap.size + 1 := by rw [hW]; simp
  rw [← hW]
  clear hW hsz
  refine (trimPre s ⟨#[45]⟩ W).mono ?_
  rintro e w1 ⟨⟨d, rfl, hd⟩, rfl⟩
  have hdl : d.size ≤ s.size := by rw [dsize hd]; exact Lib.trimPrefix_le _ _
  have HD := Lib.hid hd
  clear hd
  go_wp2_with fail
  refine (cut_any d 46 W (by omega) (HM.out.below hbw)).mono ?_
  rintro e w1 ⟨⟨fr, pt, fd, rfl, hfr, hpt⟩, hb1⟩
  have hcl : pt.size ≤ d.size := by
    rw [dsize hpt]
    unfold Lib.cut
    split
    · simp only [List.length_drop]; show _ ≤ d.data.toList.length; omega
    · simp
  obtain ⟨L, hL⟩ : ∃ L, pt.size = L := ⟨_, rfl⟩
  have HFR := Lib.hid hfr
  have HPT := Lib.hid hpt
  have B0 := B0.below hb1 B0.lt
  have hbw := hbw.trans (hb1.mono hbw.size)
  have HL := Lib.hid hL
  have hL1 : L ≤ 2000000 := by omega
  clear hfr hpt hb1 hL hcl
  go_wp2_with (fail)
  go_loop [6] (fun v => ∃ (t : ByteArray) (k : Nat), v = .string t ∧ Hid (t.data.toList = pt.data.toList ++ zeros k) ∧ k ≤ 4 - L) (fun v => 4 - strLen v)
  case atStart => exact ⟨pt, 0, rfl, Lib.hid (by simp [zeros]), Nat.zero_le _⟩
  case round =>
    obtain ⟨t, k, rfl, HTT, hk⟩ := hrel
    have hsz : t.size = L + k := by
      have : t.data.toList.length = L + k := by rw [HTT.out, ← HL.out]; simp [zeros]
      exact this
    have hs1 : t.size ≤ L + k := by omega
    have hs2 : L + k ≤ t.size := by omega
    clear hsz
    by_cases hlt : t.size < 4
    · go_wp2_with (fail)
      go_round
      case rel =>
        refine ⟨t ++ ⟨#[48]⟩, k + 1, rfl, Lib.hid ?_, by omega⟩
        rw [toList_app, HTT.out, List.append_assoc]
        unfold zeros
        rw [List.replicate_succ']
      case measure =>
        have : (t ++ ⟨#[48]⟩ : ByteArray).size = t.size + 1 := by rw [ByteArray.size_append]; rfl
        simp [strLen, this]
        omega
    · have HP := Lib.hid (show t.data.toList = padR (Lib.cut d.data.toList [46]).2.1 4 by
        rw [HTT.out, HPT.out]
        unfold padR
        rw [← dsize HPT.out, HL.out, show k = 4 - L by omega])
      clear HTT
      obtain ⟨a, ok1, hw1, hv1, ha⟩ := wholeV_form fr.data.toList
      obtain ⟨b, ok2, hw2, hv2, hb⟩ := wholeV_form t.data.toList
      have HW1 := Lib.hid (hw1)
      have HW2 := Lib.hid (hw2)
      have HV1 := Lib.hid hv1
      have HV2 := Lib.hid hv2
      have HR := Lib.hid (show readNumF s.data.toList = if ok1 = true ∧ ok2 = true ∧ t.size ≤ 4 ∧ a ≤ 99999999999 then
          some (if d.size < s.size then -((a * 10000 + b : Nat) : Int) else ((a * 10000 + b : Nat) : Int)) else none by
        unfold readNumF
        simp only []
        rw [← show d.data.toList = Lib.trimPrefix s.data.toList [45] from HD.out, ← HP.out, ← HFR.out, hw1, hw2]
        rfl)
      clear hw1 hw2 hv1 hv2 HD HFR HPT HP HL hs1 hs2 hk
      go_wp2_with fail
      refine (whole_any fr w1).mono ?_
      rw [HV1.out]
      rintro e w2 ⟨rfl, rfl⟩
      go_wp2_with fail
      refine (whole_any t w1).mono ?_
      rw [HV2.out]
      rintro e w2 ⟨rfl, rfl⟩
      clear HV1 HV2 HW1 HW2
      have rc0 : w1.cell? ⟨w.heap.size, 0, none⟩ = some (.int .i64 0) := B0.cell 0
      have rz0 : w1.frozen? ⟨w.heap.size, 0, none⟩ = false := B0.frozen 0
      have rc1 : w1.cell? ⟨w.heap.size, 1, none⟩ = some (.int .i64 0) := B0.cell 1
      have rz1 : w1.frozen? ⟨w.heap.size, 1, none⟩ = false := B0.frozen 1
      have rc2 : w1.cell? ⟨w.heap.size, 2, none⟩ = some (.string ⟨#[]⟩) := B0.cell 2
      have rz2 : w1.frozen? ⟨w.heap.size, 2, none⟩ = false := B0.frozen 2
      have rc3 : w1.cell? ⟨w.heap.size, 3, none⟩ = some (.slice none 0 0) := B0.cell 3
      have rz3 : w1.frozen? ⟨w.heap.size, 3, none⟩ = false := B0.frozen 3
      by_cases hcond : ok1 = true ∧ ok2 = true ∧ t.size ≤ 4 ∧ a ≤ 99999999999
      · obtain ⟨rfl, rfl, h4, ha2⟩ := hcond
        by_cases hneg : d.size < s.size
        · have HE := Lib.hid (show optV 2 (readNumF s.data.toList) = .tuple #[.agg #[.int .i64 2, .int .i64 (-((a : Int) * 10000 + b)), .string ⟨#[]⟩, .slice none 0 0], .bool true] by
            rw [HR.out, if_pos ⟨rfl, rfl, h4, ha2⟩, if_pos hneg]
            show Value.tuple #[.agg #[.int .i64 2, .int .i64 (-((a * 10000 + b : Nat) : Int)), _, _], _] = _
            rw [show ((a * 10000 + b : Nat) : Int) = (a : Int) * 10000 + b by omega])
          go_wp2
          obtain ⟨W9, hW9⟩ : ∃ W9, W9 = (((w1.setCell ⟨w.heap.size, 0, none⟩ (.int .i64 2)).setCell ⟨w.heap.size, 1, none⟩ (.int .i64 (-((a : Int) * 10000 + b)))).setCell ⟨w.heap.size, 2, none⟩ (.string ⟨#[]⟩)).setCell ⟨w.heap.size, 3, none⟩ (.slice none 0 0) := ⟨_, rfl⟩
          have B9 : Blk W9 (w.heap.size) 24 #[.int .i64 2, .int .i64 (-((a : Int) * 10000 + b)), .string ⟨#[]⟩, .slice none 0 0] := hW9 ▸ ((((B0.set_ 0 _).set_ 1 _).set_ 2 _).set_ 3 _)
          have hbw9 : Below w.heap.size w W9 := hW9 ▸ ((((hbw.setCell (p := ⟨w.heap.size, 0, none⟩) (Nat.le_refl _) _).setCell (p := ⟨w.heap.size, 1, none⟩) (Nat.le_refl _) _).setCell (p := ⟨w.heap.size, 2, none⟩) (Nat.le_refl _) _).setCell (p := ⟨w.heap.size, 3, none⟩) (Nat.le_refl _) _)
          rw [← hW9]
          clear hW9
          have qc0 : W9.cell? ⟨w.heap.size, 0, none⟩ = some (.int .i64 2) := B9.cell 0
          have qc1 : W9.cell? ⟨w.heap.size, 1, none⟩ = some (.int .i64 (-((a : Int) * 10000 + b))) := B9.cell 1
          have qc2 : W9.cell? ⟨w.heap.size, 2, none⟩ = some (.string ⟨#[]⟩) := B9.cell 2
          have qc3 : W9.cell? ⟨w.heap.size, 3, none⟩ = some (.slice none 0 0) := B9.cell 3
          refine bodyPost_ret (v := .tuple #[.agg #[.int .i64 2, .int .i64 (-((a : Int) * 10000 + b)), .string ⟨#[]⟩, .slice none 0 0], .bool true]) (by simp [results, Tryz.results190, go_sem, qc0, qc1, qc2, qc3]) rfl ⟨ret_val HE.out.symm, hbw9⟩
        · have HE := Lib.hid (show optV 2 (readNumF s.data.toList) = .tuple #[.agg #[.int .i64 2, .int .i64 ((a : Int) * 10000 + b), .string ⟨#[]⟩, .slice none 0 0], .bool true] by
            rw [HR.out, if_pos ⟨rfl, rfl, h4, ha2⟩, if_neg hneg]
            show Value.tuple #[.agg #[.int .i64 2, .int .i64 ((a * 10000 + b : Nat) : Int), _, _], _] = _
            rw [show ((a * 10000 + b : Nat) : Int) = (a : Int) * 10000 + b by omega])
          go_wp2
          obtain ⟨W9, hW9⟩ : ∃ W9, W9 = (((w1.setCell ⟨w.heap.size, 0, none⟩ (.int .i64 2)).setCell ⟨w.heap.size, 1, none⟩ (.int .i64 ((a : Int) * 10000 + b))).setCell ⟨w.heap.size, 2, none⟩ (.string ⟨#[]⟩)).setCell ⟨w.heap.size, 3, none⟩ (.slice none 0 0) := ⟨_, rfl⟩
          have B9 : Blk W9 (w.heap.size) 24 #[.int .i64 2, .int .i64 ((a : Int) * 10000 + b), .string ⟨#[]⟩, .slice none 0 0] := hW9 ▸ ((((B0.set_ 0 _).set_ 1 _).set_ 2 _).set_ 3 _)
          have hbw9 : Below w.heap.size w W9 := hW9 ▸ ((((hbw.setCell (p := ⟨w.heap.size, 0, none⟩) (Nat.le_refl _) _).setCell (p := ⟨w.heap.size, 1, none⟩) (Nat.le_refl _) _).setCell (p := ⟨w.heap.size, 2, none⟩) (Nat.le_refl _) _).setCell (p := ⟨w.heap.size, 3, none⟩) (Nat.le_refl _) _)
          rw [← hW9]
          clear hW9
          have qc0 : W9.cell? ⟨w.heap.size, 0, none⟩ = some (.int .i64 2) := B9.cell 0
          have qc1 : W9.cell? ⟨w.heap.size, 1, none⟩ = some (.int .i64 ((a : Int) * 10000 + b)) := B9.cell 1
          have qc2 : W9.cell? ⟨w.heap.size, 2, none⟩ = some (.string ⟨#[]⟩) := B9.cell 2
          have qc3 : W9.cell? ⟨w.heap.size, 3, none⟩ = some (.slice none 0 0) := B9.cell 3
          refine bodyPost_ret (v := .tuple #[.agg #[.int .i64 2, .int .i64 ((a : Int) * 10000 + b), .string ⟨#[]⟩, .slice none 0 0], .bool true]) (by simp [results, Tryz.results190, go_sem, qc0, qc1, qc2, qc3]) rfl ⟨ret_val HE.out.symm, hbw9⟩
      · have HE := Lib.hid (show optV 2 (readNumF s.data.toList) = .tuple #[.agg #[.int .i64 0, .int .i64 0, .string ⟨#[]⟩, .slice none 0 0], .bool false] by rw [HR.out, if_neg hcond]; rfl)
        rcases ok1 with _ | _
        · clear hcond
          go_wp2
          obtain ⟨W9, hW9⟩ : ∃ W9, W9 = (((w1.setCell ⟨w.heap.size, 0, none⟩ (.int .i64 0)).setCell ⟨w.heap.size, 1, none⟩ (.int .i64 0)).setCell ⟨w.heap.size, 2, none⟩ (.string ⟨#[]⟩)).setCell ⟨w.heap.size, 3, none⟩ (.slice none 0 0) := ⟨_, rfl⟩
          have B9 : Blk W9 (w.heap.size) 24 #[.int .i64 0, .int .i64 0, .string ⟨#[]⟩, .slice none 0 0] := hW9 ▸ ((((B0.set_ 0 _).set_ 1 _).set_ 2 _).set_ 3 _)
          have hbw9 : Below w.heap.size w W9 := hW9 ▸ ((((hbw.setCell (p := ⟨w.heap.size, 0, none⟩) (Nat.le_refl _) _).setCell (p := ⟨w.heap.size, 1, none⟩) (Nat.le_refl _) _).setCell (p := ⟨w.heap.size, 2, none⟩) (Nat.le_refl _) _).setCell (p := ⟨w.heap.size, 3, none⟩) (Nat.le_refl _) _)
          rw [← hW9]
          clear hW9
          have qc0 : W9.cell? ⟨w.heap.size, 0, none⟩ = some (.int .i64 0) := B9.cell 0
          have qc1 : W9.cell? ⟨w.heap.size, 1, none⟩ = some (.int .i64 0) := B9.cell 1
          have qc2 : W9.cell? ⟨w.heap.size, 2, none⟩ = some (.string ⟨#[]⟩) := B9.cell 2
          have qc3 : W9.cell? ⟨w.heap.size, 3, none⟩ = some (.slice none 0 0) := B9.cell 3
          refine bodyPost_ret (v := .tuple #[.agg #[.int .i64 0, .int .i64 0, .string ⟨#[]⟩, .slice none 0 0], .bool false]) (by simp [results, Tryz.results190, go_sem, qc0, qc1, qc2, qc3]) rfl ⟨ret_val HE.out.symm, hbw9⟩
        rcases ok2 with _ | _
        · clear hcond
          go_wp2
          obtain ⟨W9, hW9⟩ : ∃ W9, W9 = (((w1.setCell ⟨w.heap.size, 0, none⟩ (.int .i64 0)).setCell ⟨w.heap.size, 1, none⟩ (.int .i64 0)).setCell ⟨w.heap.size, 2, none⟩ (.string ⟨#[]⟩)).setCell ⟨w.heap.size, 3, none⟩ (.slice none 0 0) := ⟨_, rfl⟩
          have B9 : Blk W9 (w.heap.size) 24 #[.int .i64 0, .int .i64 0, .string ⟨#[]⟩, .slice none 0 0] := hW9 ▸ ((((B0.set_ 0 _).set_ 1 _).set_ 2 _).set_ 3 _)
          have hbw9 : Below w.heap.size w W9 := hW9 ▸ ((((hbw.setCell (p := ⟨w.heap.size, 0, none⟩) (Nat.le_refl _) _).setCell (p := ⟨w.heap.size, 1, none⟩) (Nat.le_refl _) _).setCell (p := ⟨w.heap.size, 2, none⟩) (Nat.le_refl _) _).setCell (p := ⟨w.heap.size, 3, none⟩) (Nat.le_refl _) _)
          rw [← hW9]
          clear hW9
          have qc0 : W9.cell? ⟨w.heap.size, 0, none⟩ = some (.int .i64 0) := B9.cell 0
          have qc1 : W9.cell? ⟨w.heap.size, 1, none⟩ = some (.int .i64 0) := B9.cell 1
          have qc2 : W9.cell? ⟨w.heap.size, 2, none⟩ = some (.string ⟨#[]⟩) := B9.cell 2
          have qc3 : W9.cell? ⟨w.heap.size, 3, none⟩ = some (.slice none 0 0) := B9.cell 3
          refine bodyPost_ret (v := .tuple #[.agg #[.int .i64 0, .int .i64 0, .string ⟨#[]⟩, .slice none 0 0], .bool false]) (by simp [results, Tryz.results190, go_sem, qc0, qc1, qc2, qc3]) rfl ⟨ret_val HE.out.symm, hbw9⟩
        by_cases h4 : t.size ≤ 4
        · have ha2 : 99999999999 < a := by
            rcases Nat.lt_or_ge 99999999999 a with h | h
            · exact h
            · exact absurd ⟨rfl, rfl, h4, h⟩ hcond
          clear hcond
          go_wp2
          obtain ⟨W9, hW9⟩ : ∃ W9, W9 = (((w1.setCell ⟨w.heap.size, 0, none⟩ (.int .i64 0)).setCell ⟨w.heap.size, 1, none⟩ (.int .i64 0)).setCell ⟨w.heap.size, 2, none⟩ (.string ⟨#[]⟩)).setCell ⟨w.heap.size, 3, none⟩ (.slice none 0 0) := ⟨_, rfl⟩
          have B9 : Blk W9 (w.heap.size) 24 #[.int .i64 0, .int .i64 0, .string ⟨#[]⟩, .slice none 0 0] := hW9 ▸ ((((B0.set_ 0 _).set_ 1 _).set_ 2 _).set_ 3 _)
          have hbw9 : Below w.heap.size w W9 := hW9 ▸ ((((hbw.setCell (p := ⟨w.heap.size, 0, none⟩) (Nat.le_refl _) _).setCell (p := ⟨w.heap.size, 1, none⟩) (Nat.le_refl _) _).setCell (p := ⟨w.heap.size, 2, none⟩) (Nat.le_refl _) _).setCell (p := ⟨w.heap.size, 3, none⟩) (Nat.le_refl _) _)
          rw [← hW9]
          clear hW9
          have qc0 : W9.cell? ⟨w.heap.size, 0, none⟩ = some (.int .i64 0) := B9.cell 0
          have qc1 : W9.cell? ⟨w.heap.size, 1, none⟩ = some (.int .i64 0) := B9.cell 1
          have qc2 : W9.cell? ⟨w.heap.size, 2, none⟩ = some (.string ⟨#[]⟩) := B9.cell 2
          have qc3 : W9.cell? ⟨w.heap.size, 3, none⟩ = some (.slice none 0 0) := B9.cell 3
          refine bodyPost_ret (v := .tuple #[.agg #[.int .i64 0, .int .i64 0, .string ⟨#[]⟩, .slice none 0 0], .bool false]) (by simp [results, Tryz.results190, go_sem, qc0, qc1, qc2, qc3]) rfl ⟨ret_val HE.out.symm, hbw9⟩
        · clear hcond
          go_wp2
          obtain ⟨W9, hW9⟩ : ∃ W9, W9 = (((w1.setCell ⟨w.heap.size, 0, none⟩ (.int .i64 0)).setCell ⟨w.heap.size, 1, none⟩ (.int .i64 0)).setCell ⟨w.heap.size, 2, none⟩ (.string ⟨#[]⟩)).setCell ⟨w.heap.size, 3, none⟩ (.slice none 0 0) := ⟨_, rfl⟩
          have B9 : Blk W9 (w.heap.size) 24 #[.int .i64 0, .int .i64 0, .string ⟨#[]⟩, .slice none 0 0] := hW9 ▸ ((((B0.set_ 0 _).set_ 1 _).set_ 2 _).set_ 3 _)
          have hbw9 : Below w.heap.size w W9 := hW9 ▸ ((((hbw.setCell (p := ⟨w.heap.size, 0, none⟩) (Nat.le_refl _) _).setCell (p := ⟨w.heap.size, 1, none⟩) (Nat.le_refl _) _).setCell (p := ⟨w.heap.size, 2, none⟩) (Nat.le_refl _) _).setCell (p := ⟨w.heap.size, 3, none⟩) (Nat.le_refl _) _)
          rw [← hW9]
          clear hW9
          have qc0 : W9.cell? ⟨w.heap.size, 0, none⟩ = some (.int .i64 0) := B9.cell 0
          have qc1 : W9.cell? ⟨w.heap.size, 1, none⟩ = some (.int .i64 0) := B9.cell 1
          have qc2 : W9.cell? ⟨w.heap.size, 2, none⟩ = some (.string ⟨#[]⟩) := B9.cell 2
          have qc3 : W9.cell? ⟨w.heap.size, 3, none⟩ = some (.slice none 0 0) := B9.cell 3
          refine bodyPost_ret (v := .tuple #[.agg #[.int .i64 0, .int .i64 0, .string ⟨#[]⟩, .slice none 0 0], .bool false]) (by simp [results, Tryz.results190, go_sem, qc0, qc1, qc2, qc3]) rfl ⟨ret_val HE.out.symm, hbw9⟩
end Go.Proofs.YtobanldeicclmaaGreatDoor
namespace Go.Proofs.YtobanldeicclmaaGreatDoor
open Go.RowKit Dig Vtx
theorem infoS : (Tryz.prog.info? 9).map (fun i => (i.zero, i.size, i.bytes)) = some (some (.string ByteArray.empty), 1, 16) := by kernel_rfl
theorem own_strs {w : World} {B' n : Nat} {v : Value} {xs : List ByteArray} (h : w.ownsRow B' 9 1 v n (xs.map Value.string)) : n = xs.length ∧ ((v = .slice none 0 0 ∧ xs = []) ∨ ∃ g c, v = .slice (some ⟨g, 0, none⟩) xs.length c ∧ g < w.heap.size ∧ xs.length ≤ c ∧ ∀ j x, xs[j]? = some x → w.cell? ⟨g, 0 + j, none⟩ = some (.string x)) := by
  obtain ⟨h1, h2⟩ := id h
  have hn : n = xs.length := by simp at h1; omega
  subst hn
  refine ⟨rfl, ?_⟩
  rcases h2 with ⟨rfl, e0⟩ | ⟨g, cap, cur, rfl, e1, e2, e3, e4, e5⟩
  · exact .inl ⟨rfl, List.eq_nil_of_length_eq_zero e0⟩
  · refine .inr ⟨g, cap, rfl, ?_, e3, fun j x hx => ?_⟩
    · rcases Nat.lt_or_ge g w.heap.size with h' | h'
      · exact h'
      · rw [Array.getElem?_eq_none h'] at e2; cases e2
    · have := h.cells (g := g) rfl j (.string x) (by simp [hx])
      rwa [Addr.add_lit] at this
theorem join_own {B' n : Nat} {v : Value} (xs : List ByteArray) (sep : ByteArray) (w : World) (h : w.ownsRow B' 9 1 v n (xs.map Value.string)) (hN : xs.length ≤ 140737488355328)
    (hlen : (Lib.join (xs.map (·.data.toList)) sep.data.toList).length ≤ 140737488355328) :
    Calls Tryz.prog 49 #[v, .string sep] w fun e w' => (∃ t : ByteArray, e = .returned (.string t) ∧ t.data.toList = Lib.join (xs.map (·.data.toList)) sep.data.toList) ∧ Below w.heap.size w w' := by
  obtain ⟨rfl, ⟨rfl, rfl⟩ | ⟨g, c, rfl, hg, hc, hcells⟩⟩ := own_strs h
  · exact (Tryz.strings_Join_none none 0 sep w).mono fun _ _ ⟨he, hw⟩ => ⟨⟨_, he, rfl⟩, hw ▸ Below.refl _ _⟩
  · exact (Tryz.strings_Join g 0 c xs sep w hcells hg hN hc hlen).mono fun _ _ ⟨he, hb⟩ => ⟨⟨_, he, rfl⟩, hb⟩
theorem own_below {w w' : World} {B size n : Nat} {e : TypeId} {v : Value} {xs : List Value} (h : w.ownsRow B e size v n xs) (hb : Below w.heap.size w w') : w'.ownsRow B e size v n xs := by
  refine ⟨h.1, h.2.imp id ?_⟩
  rintro ⟨g, cap, cur, e0, e1, e2, e3, e4, e5, e6⟩
  have hlt : g < w.heap.size := by
    rcases Nat.lt_or_ge g w.heap.size with h' | h'
    · exact h'
    · rw [Array.getElem?_eq_none h'] at e2; cases e2
  exact ⟨g, cap, cur, e0, e1, (hb.block g hlt).trans e2, e3, e4, e5, e6⟩
/-- the texts of a set's codes -/
def codeS (l : List Int) : List ByteArray := l.map fun c => ⟨(codeT c).toArray⟩
theorem codeS_data (l : List Int) : (codeS l).map (·.data.toList) = l.map codeT := by simp [codeS]
theorem code_len {c : Int} (h : 1 ≤ c ∧ c ≤ 999) : (codeT c).length ≤ 4 := by
  rw [code_nat (by omega), List.length_cons]
  have := dec_len 2 c.toNat (by omega)
  omega
theorem joinT_len : ∀ (l : List Int), (∀ c ∈ l, 1 ≤ c ∧ c ≤ 999) → (Lib.join (l.map codeT) [44]).length ≤ 5 * l.length
  | [], _ => by simp [Lib.join_nil]
  | [c], h => by
    rw [List.map_cons, List.map_nil, Lib.join_one]
    have := code_len (h c (List.mem_cons_self ..))
    simp; omega
  | c :: d :: r, h => by
    have e : Lib.join ((c :: d :: r).map codeT) [44] = codeT c ++ 44 :: Lib.join ((d :: r).map codeT) [44] := by
      simp only [List.map_cons]
      rw [Lib.join_cons, Lib.join_cons]; simp [Lib.joinTail]
    have := joinT_len (d :: r) (fun x hx => h x (List.mem_cons_of_mem _ hx))
    have := code_len (h c (List.mem_cons_self ..))
    rw [e]
    simp only [List.length_append, List.length_cons] at *
    omega
set_option maxHeartbeats 2000000 in
set_option maxRecDepth 100000 in
theorem showSet_any (A : Option Addr) (l : List Int) (c B1 : Nat) (w : World) (hl : l.length ≤ 1000) (hc : ∀ c ∈ l, 1 ≤ c ∧ c ≤ 999) (hx : Reads w B1 1 A l.length (numV .i64 l)) (hB1 : B1 ≤ w.heap.size) (htab : Tab w) :
    Calls Tryz.prog 45 #[.slice A l.length c] w fun e w' => (∃ t : ByteArray, e = .returned (.string t) ∧ t.data.toList = setT l) ∧ Below w.heap.size w w' := by
  have HT := Lib.hid htab
  have HX := Lib.hid (hx.more hB1)
  have HC := Lib.hid hc
  clear htab hx hc
  obtain ⟨i0, hi0, hz0, hz1, hz2⟩ := info_parts infoS
  go_enter Tryz.func45, Tryz.ntmps45
  go_wp2
  go_loopw [3, 8] (fun v i wr => ∃ k : Nat, k ≤ l.length ∧ i = .int .i64 k ∧ wr.ownsRow w.heap.size 9 1 v k ((codeS (l.take k)).map Value.string) ∧ Below w.heap.size w wr) (fun _ i _ => l.length - (intOf i).toNat)
  case atStart => exact ⟨0, Nat.zero_le _, rfl, World.ownsRow_nil _ _ _ _, Below.refl _ _⟩
  case round =>
    obtain ⟨k, hk, rfl, hown, hbr⟩ := hrel
    have HO := Lib.hid hown
    clear hown
    have hsr := hbr.size
    by_cases hlt : k < l.length
    · obtain ⟨ad, u, rfl, hb, hu, hcell⟩ := (HX.out.below hbr).at_ hlt
      obtain ⟨hkl, rfl⟩ := numV_get _ _ _ _ hu
      obtain ⟨x, hx⟩ : ∃ x, l[k] = x := ⟨_, rfl⟩
      have hxc := HC.out l[k] (List.getElem_mem hkl)
      rw [hx] at hxc hcell
      obtain ⟨hx1, hx2⟩ := hxc
      have HXX := Lib.hid hx
      have HT1 := Lib.hid (HT.out.below hbr)
      clear hu hx
      go_wp2_with fail
      refine (itoa_any x wr (by omega) (by omega) HT1.out).mono ?_
      rintro e w2 ⟨⟨t, rfl, ht⟩, hb2⟩
      have HTT := Lib.hid ht
      have hown2 := own_below HO.out hb2
      have hbr2 := hbr.trans (hb2.mono hsr)
      have hs2 := hbr2.size
      have htl : t.size ≤ 20 := by
        rw [dsize ht]
        obtain ⟨m, rfl⟩ : ∃ m : Nat, x = m := ⟨x.toNat, by omega⟩
        rw [itoa_nat]
        have := dec_len 2 m (by omega)
        omega
      have HN := Lib.hid (show (codeS (l.take (k + 1))).map Value.string = (codeS (l.take k)).map Value.string ++ [.string (⟨#[35]⟩ ++ t)] by
        rw [List.take_succ_eq_append_getElem hkl, HXX.out]
        unfold codeS
        rw [List.map_append, List.map_append]
        congr 1
        show [Value.string _] = _
        rw [ba_of (show (⟨#[35]⟩ ++ t : ByteArray).data.toList = codeT x by rw [toList_app, HTT.out]; rfl)])
      clear ht hcell HO hb2
      go_wp2_with (at_builtin; refine wpList_append_own _ rfl _ _ 53 rfl w.heap.size 9 i0 (.string ByteArray.empty) 1 16 Tryz.underlying53 hi0 hz0 hz1 hz2 rfl (by decide) _ _ _ rfl (hown2.alloc _) ⟨w2.heap.size, 0, none⟩ 1 1 [.string (⟨#[35]⟩ ++ t)] rfl rfl ?c1 ?c2 ?c3 ?c4 ?c5 ?_)
      case c1 => intro j u hj; cases j <;> simp_all [go_sem]
      case c2 => intro u hu; simp only [List.mem_singleton] at hu; subst hu; rfl
      case c3 => unfold maxLen; omega
      case c4 => omega
      case c5 => simp; omega
      intro v2 w3 hown3 hg3 _
      have hb3 : Below w.heap.size w w3 := (hbr2.alloc (by omega) _).grown hg3 (by simp; omega) (fun g hg => (hown2.lt g hg).1)
      have HO := Lib.hid (show w3.ownsRow w.heap.size 9 1 v2 (k + 1) ((codeS (l.take (k + 1))).map Value.string) by rw [HN.out]; exact hown3)
      clear hown3 hg3 hown2
      go_wp2
      go_roundw
      case rel => exact ⟨k + 1, by omega, by go_num, HO.out, hb3⟩
      case measure => simp [intOf]; omega
    · have HF := Lib.hid (show wr.ownsRow w.heap.size 9 1 _ k ((codeS l).map Value.string) by
        have h := HO.out
        rwa [List.take_of_length_le (by omega)] at h)
      have hjl := joinT_len l HC.out
      clear HO
      go_wp2_with fail
      refine (join_own (codeS l) ⟨#[44]⟩ wr HF.out (by unfold codeS; simp; omega) (by rw [codeS_data]; show (Lib.join _ [44]).length ≤ _; omega)).mono ?_
      rintro e w2 ⟨⟨t, rfl, ht⟩, hb2⟩
      rw [codeS_data] at ht
      have HTT := Lib.hid (show t.data.toList = Lib.join (l.map codeT) [44] from ht)
      have htl : t.size ≤ 5000 := by rw [dsize HTT.out]; omega
      have hb3 := hbr.trans (hb2.mono hsr)
      clear ht
      go_wp2
      go_ret
      exact ⟨⟨_, rfl, by rw [toList_app, toList_app, HTT.out]; rfl⟩, hb3⟩
end Go.Proofs.YtobanldeicclmaaGreatDoor
namespace Go.Proofs.YtobanldeicclmaaGreatDoor
open Go.RowKit
theorem ret_tup3 {a b c a' b' c' : Int} (h1 : a = a') (h2 : b = b') (h3 : c = c') : Ending.returned (.tuple #[.int .i64 a, .int .i64 b, .int .i64 c]) = .returned (.tuple #[.int .i64 a', .int .i64 b', .int .i64 c']) := by rw [h1, h2, h3]
theorem leap_any (y : Int) (w : World) (h0 : 0 ≤ y) (h1 : y ≤ 10000) :
    Calls Tryz.prog 131 #[.int .i64 y] w fun e w' => e = .returned (.bool (Cal.lp y)) ∧ w = w' := by
  go_enter Tryz.func131, Tryz.ntmps131
  go_wp2
  all_goals (go_ret; exact ⟨ret_bool (by simp_all [Cal.lp, Bool.beq_eq_decide_eq]), rfl⟩)
theorem daysOf_any (y m : Int) (w : World) (h0 : 0 ≤ y) (h1 : y ≤ 10000) :
    Calls Tryz.prog 109 #[.int .i64 y, .int .i64 m] w fun e w' => e = .returned (.int .i64 (Cal.dim y m)) ∧ w = w' := by
  go_enter Tryz.func109, Tryz.ntmps109
  go_wp2_with (go_at_call 131; refine (leap_any _ _ h0 h1).mono ?_; rintro e w' ⟨rfl, rfl⟩)
  all_goals (go_ret; exact ⟨ret_int (by simp_all [Cal.dim]), rfl⟩)
theorem number_any (y m d : Int) (w : World) (h0 : 1600 ≤ y) (h1 : y ≤ 2400) (m1 : 1 ≤ m) (m2 : m ≤ 12) (d0 : 0 ≤ d) (d1 : d ≤ 40) :
    Calls Tryz.prog 70 #[.int .i64 y, .int .i64 m, .int .i64 d] w fun e w' => e = .returned (.int .i64 (Cal.num y m d)) ∧ w = w' := by
  have hb := Cal.base_bd y h0 h1
  go_enter Tryz.func70, Tryz.ntmps70
  go_wp2
  go_loop [9, 8] (fun k s => ∃ j : Int, 1 ≤ j ∧ j ≤ m ∧ k = .int .i64 j ∧ s = .int .i64 (Cal.base y + Cal.cum y j)) (fun k _ => (m - intOf k).toNat)
  case atStart => exact ⟨1, by omega, by omega, rfl, by rw [Cal.cum_one]; unfold Cal.base; simp⟩
  case round =>
    obtain ⟨j, hj1, hj2, rfl, rfl⟩ := hrel
    have cb := Cal.cum_bd y j
    have db := Cal.dim_bd y j
    by_cases hlt : j < m
    · have cs := Cal.cum_succ y j hj1 (by omega)
      have CS := Lib.hid cs
      clear cs
      go_wp2_with (go_at_call 109; refine (daysOf_any _ _ _ (by omega) (by omega)).mono ?_; rintro e w' ⟨rfl, rfl⟩)
      go_round
      case rel => exact ⟨j + 1, by omega, by omega, rfl, by rw [CS.out, Int.add_assoc]⟩
      case measure => simp [intOf]; omega
    · obtain rfl : j = m := by omega
      go_wp2
      go_ret
      exact ⟨ret_int (by unfold Cal.num; rfl), rfl⟩
end Go.Proofs.YtobanldeicclmaaGreatDoor
