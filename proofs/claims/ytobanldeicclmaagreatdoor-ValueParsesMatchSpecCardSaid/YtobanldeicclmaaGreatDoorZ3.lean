/- Lemmas for the claim: walks and plain laws. -/
import Derived.Test.YtobanldeicclmaaGreatDoorZ2
namespace Go.Proofs.YtobanldeicclmaaGreatDoor.Vtx
open Go.Lib Dig
theorem lg {c : Int} (h : 0 ≤ c) : dh c = 35 :: decDigits c.toNat := by
 unfold dh
 obtain ⟨m, rfl⟩ : ∃ m : Nat, c = m := ⟨c.toNat, by omega⟩
 rw [jd]; simp
theorem ND {c : Int} (h : 0 ≤ c) {x : UInt8} (hx : ¬ cu x) (h35 : x ≠ 35) : x ∉ dh c := by
 rw [lg h]
 intro hm
 rcases List.mem_cons.1 hm with e | e
 ·
  exact h35 e
 ·
  exact hx (nR _ x e)
theorem RN (l : List UInt8) : trimPrefix (35 :: l) [35] = l := by simp [trimPrefix, hasPrefix, List.isPrefixOf]
theorem Ar : ∀ {l : List Int}, (∀ c ∈ l, 1 ≤ c ∧ c ≤ 999) → nG (l.map dh) = some l
 | [], _ => rfl
 | c :: r, h => by
  have hc := h c (List.mem_cons_self ..)
  have hw := yw (n := c.toNat) (by have := cO 2 c.toNat (by omega); omega)
  simp only [List.map_cons, nG]
  rw [lg (by omega), RN, hw, if_pos rfl, Ar (fun x hx => h x (List.mem_cons_of_mem _ hx))]
  simp
  omega
theorem IC {l : List Int} (h : ∀ c ∈ l, 1 ≤ c ∧ c ≤ 999) : lH (l.map dh) = l := by
 unfold lH
 induction l with
 | nil => rfl
 | cons c r ih =>
  have hc := h c (List.mem_cons_self ..)
  have hn : dh c ≠ [] := by unfold dh; simp
  rw [List.map_cons, List.filter_cons_of_pos (by simpa using hn), List.map_cons, ih (fun x hx => h x (List.mem_cons_of_mem _ hx)), lg (by omega), RN,
   yz (Nat.lt_of_le_of_lt (show c.toNat ≤ 999 by omega) (by decide))]
  congr 1
  omega
theorem Au {c : Int} {r : List Int} (h : ∀ x ∈ c :: r, 1 ≤ x ∧ x ≤ 999) : (∃ t, join ((c :: r).map dh) [44] = 35 :: t) ∧ (∃ t b, join ((c :: r).map dh) [44] = t ++ [b] ∧ cu b) := by
 have hd : ∀ (c : Int), 1 ≤ c → ∃ t b, dh c = t ++ [b] ∧ cu b := by
  intro c hc
  rw [lg (by omega)]
  have hne := Ah c.toNat
  refine ⟨35 :: (decDigits c.toNat).dropLast, (decDigits c.toNat).getLast hne, ?_, nR _ _ (List.getLast_mem hne)⟩
  rw [List.cons_append, List.dropLast_concat_getLast]
 constructor
 ·
  rw [List.map_cons, join_cons, lg (by have := h c (List.mem_cons_self ..); omega)]
  exact ⟨_, rfl⟩
 ·
  induction r generalizing c with
  | nil =>
   rw [List.map_cons, List.map_nil, join_one]
   exact hd c (h c (List.mem_cons_self ..)).1
  | cons d r ih =>
   obtain ⟨t, b, e, hb⟩ := ih (c := d) (fun x hx => h x (List.mem_cons_of_mem _ hx))
   have e2 : join ((c :: d :: r).map dh) [44] = dh c ++ 44 :: join ((d :: r).map dh) [44] := by
    simp only [List.map_cons]
    rw [join_cons, join_cons]; simp [joinTail]
   rw [e2, e]
   exact ⟨dh c ++ 44 :: t, b, by simp, hb⟩
theorem OI (l : List Int) : nH (kW l) = join (l.map dh) [44] := by
 unfold nH kW
 have h1 : trimPrefix (123 :: join (l.map dh) [44] ++ [125]) [123] = join (l.map dh) [44] ++ [125] := by simp [trimPrefix, hasPrefix, List.isPrefixOf]
 rw [h1]
 have h2 : hasSuffix (join (l.map dh) [44] ++ [125]) [125] = true := by
  unfold hasSuffix
  rw [List.isSuffixOf_iff_suffix]
  exact ⟨_, rfl⟩
 unfold trimSuffix
 rw [if_pos h2]
 simp
theorem Aw {l : List Int} (h : ∀ c ∈ l, 1 ≤ c ∧ c ≤ 999) : ∀ p ∈ l.map dh, (44 : UInt8) ∉ p := by
 intro p hp
 obtain ⟨c, hc, rfl⟩ := List.mem_map.1 hp
 exact ND (by have := h c hc; omega) acm (by decide)
theorem RP {l : List Int} (h : ∀ c ∈ l, 1 ≤ c ∧ c ≤ 999) : jM (kW l) = some l := by
 unfold jM
 rw [OI]
 cases l with
 | nil => rfl
 | cons c r =>
  obtain ⟨⟨t, ht⟩, -⟩ := Au h
  rw [if_neg (by rw [ht]; simp), lI (by simp) (Aw h), Ar h]
theorem RQ {l : List Int} (h : ∀ c ∈ l, 1 ≤ c ∧ c ≤ 999) : trimS (kW l) [123, 125] = join (l.map dh) [44] := by
 unfold kW
 cases l with
 | nil => decide
 | cons c r =>
  obtain ⟨⟨t, ht⟩, ⟨t', b, ht', hb⟩⟩ := Au h
  have hR : trimRightS (123 :: join ((c :: r).map dh) [44] ++ [125]) [123, 125] = 123 :: join ((c :: r).map dh) [44] := by
   unfold trimRightS
   rw [ht']
   have hb1 : [123, 125].contains b = false := by
    unfold cu at hb
    rw [Bool.eq_false_iff]
    intro e
    simp at e
    rcases e with e | e <;> (subst e; revert hb; decide)
   have e : (123 :: (t' ++ [b]) ++ [125]).reverse = 125 :: b :: (t'.reverse ++ [123]) := by simp
   rw [e, List.dropWhile_cons_of_pos (by decide), List.dropWhile_cons_of_neg (by rw [hb1]; decide)]
   simp
  unfold trimS
  rw [hR, ht]
  unfold trimLeftS
  rw [List.dropWhile_cons_of_pos (by decide), List.dropWhile_cons_of_neg (by decide)]
theorem RU {l : List Int} (h : ∀ c ∈ l, 1 ≤ c ∧ c ≤ 999) : lH (split (trimS (kW l) [123, 125]) [44]) = l := by
 rw [RQ h]
 cases l with
 | nil => decide
 | cons c r => rw [lI (by simp) (Aw h), IC h]
theorem qV {n : Int} (h1 : -25567 ≤ n) (h2 : n ≤ 84005) : ∃ y m d : Nat, Cal.cy n = y ∧ Cal.cm n = m ∧ Cal.cd n = d ∧ y < 10000 ∧ m < 100 ∧ d < 100 ∧ Cal.jq y m d = true ∧ Cal.num y m d = n := by
 have h := Cal.Rw h1 h2
 have hr := Cal.Ae h1 h2 h.year.1 h.year.2
 have hb := Cal.wQ (Cal.cy n) (Cal.cm n)
 have hm1 := h.m1
 have hm2 := h.m2
 have hd1 := h.d1
 have hd2 := h.d2
 have hok : Cal.jq (Cal.cy n) (Cal.cm n) (Cal.cd n) = true := by rw [Cal.nD]; exact ⟨hr, ⟨h.m1, h.m2⟩, h.d1, h.d2⟩
 have ey : Cal.cy n = ((Cal.cy n).toNat : Int) := by omega
 have em : Cal.cm n = ((Cal.cm n).toNat : Int) := by omega
 have ed : Cal.cd n = ((Cal.cd n).toNat : Int) := by omega
 refine ⟨(Cal.cy n).toNat, (Cal.cm n).toNat, (Cal.cd n).toNat, ey, em, ed, by omega, by omega, by omega, ?_, ?_⟩
 ·
  rw [← ey, ← em, ← ed]; exact hok
 ·
  rw [← ey, ← em, ← ed]; exact h.eq
theorem RY {n : Int} (h1 : -25567 ≤ n) (h2 : n ≤ 84005) : jr (jB n).tail = some n := by
 obtain ⟨y, m, d, ey, em, ed, hy, hm, hd, hok, hn⟩ := qV h1 h2
 have ly := cO 3 y hy
 have lm := cO 1 m hm
 have ld := cO 1 d hd
 have e : (jB n).tail = iO 4 y ++ 45 :: (iO 2 m ++ 45 :: iO 2 d) := by
  unfold jB
  rw [ey, em, ed]
  simp
 unfold jr
 rw [e, Ai _ (F8 (oK 4 y) Ry), Ai _ (F8 (oK 2 m) Ry), EL (F8 (oK 2 d) Ry)]
 simp only [vw ly (by decide), vw lm (by decide), vw ld (by decide)]
 rw [if_pos (by simp [hok]), hn]
theorem RZ {n : Int} (h1 : -25567 ≤ n) (h2 : n ≤ 84005) : (jB n).length = 11 ∧ Nw (bM (((jB n).take 5).drop 1)) (bM (((jB n).take 8).drop 6)) (bM ((jB n).drop 9)) = 6 ∧
  Ny (bM (((jB n).take 5).drop 1)) (bM (((jB n).take 8).drop 6)) (bM ((jB n).drop 9)) = n := by
 obtain ⟨y, m, d, ey, em, ed, hy, hm, hd, hok, hn⟩ := qV h1 h2
 have ly := cO 3 y hy
 have lm := cO 1 m hm
 have ld := cO 1 d hd
 have py := jG (w := 4) (n := y) ly
 have pm := jG (w := 2) (n := m) lm
 have pd := jG (w := 2) (n := d) ld
 have ay := vC (w := 4) (n := y) ly (by decide)
 have am := vC (w := 2) (n := m) lm (by decide)
 have ad := vC (w := 2) (n := d) ld (by decide)
 have e : jB n = 64 :: (iO 4 y ++ 45 :: (iO 2 m ++ 45 :: iO 2 d)) := by
  unfold jB
  rw [ey, em, ed]
  simp
 have s1 : ((jB n).take 5).drop 1 = iO 4 y := by
  rw [e, List.take_succ_cons, List.drop_succ_cons, List.drop_zero, List.take_left' py]
 have s2 : ((jB n).take 8).drop 6 = iO 2 m := by
  have e2 : jB n = (64 :: (iO 4 y ++ [45])) ++ (iO 2 m ++ (45 :: iO 2 d)) := by rw [e]; simp
  have l1 : (64 :: (iO 4 y ++ [45])).length = 6 := by simp [py]
  rw [List.drop_take, e2, ← l1, List.drop_left, l1, show 8 - 6 = 2 from rfl, List.take_left' pm]
 have s3 : (jB n).drop 9 = iO 2 d := by
  have e2 : jB n = (64 :: (iO 4 y ++ [45] ++ iO 2 m ++ [45])) ++ iO 2 d := by rw [e]; simp
  have l1 : (64 :: (iO 4 y ++ [45] ++ iO 2 m ++ [45])).length = 9 := by simp [py, pm]
  rw [e2, ← l1, List.drop_left]
 rw [s1, s2, s3, ay, am, ad]
 unfold Nw Ny
 rw [if_pos hok, if_pos hok, hn]
 refine ⟨?_, rfl, rfl⟩
 rw [e]; simp [py, pm, pd]
theorem IE {n : Int} (h1 : -999999999999999 ≤ n) (h2 : n ≤ 999999999999999) : ∃ b r, mJ n = b :: r ∧ (cu b ∨ (b = 45 ∧ ∃ c t, r = c :: t)) := by
 obtain ⟨F, M, hF, hM, hA, e⟩ := vz h1 h2
 obtain ⟨b, r, hb, hd⟩ := mM F
 by_cases hn : n < 0
 ·
  rw [if_pos hn, hb] at e
  exact ⟨45, _, by rw [e]; rfl, .inr ⟨rfl, _, _, rfl⟩⟩
 ·
  rw [if_neg hn, hb] at e
  exact ⟨b, _, by rw [e]; rfl, .inl hd⟩
theorem NF {n : Int} (h1 : -999999999999999 ≤ n) (h2 : n ≤ 999999999999999) : mJ n ≠ [] ∧ mJ n ≠ [45] ∧ mJ n ≠ iP ∧ mJ n ≠ dV ∧ (mJ n).head? ≠ some 39 ∧ (mJ n).head? ≠ some 35 ∧ (mJ n).head? ≠ some 123 ∧ (mJ n).head? ≠ some 64 ∧ mJ n ≠ OC ∧ mJ n ≠ OD ∧ mJ n ≠ OE := by
 obtain ⟨b, r, e, h⟩ := IE h1 h2
 rw [e]
 have hne : ∀ c : UInt8, ¬ cu c → c ≠ 45 → b ≠ c := by
  intro c hc hc' hb
  rcases h with h | ⟨h, -⟩
  ·
   exact hc (hb ▸ h)
  ·
   exact hc' (hb ▸ h)
 have k : ∀ c : UInt8, ¬ cu c → c ≠ 45 → ∀ t, b :: r ≠ c :: t := fun c h1 h2 t e => hne c h1 h2 (List.cons.inj e).1
 have hh : ∀ c : UInt8, ¬ cu c → c ≠ 45 → (b :: r).head? ≠ some c := fun c h1 h2 e => hne c h1 h2 (by simpa using e)
 refine ⟨by simp, ?_, k _ (by unfold cu; decide) (by decide) _, k _ (by unfold cu; decide) (by decide) _, hh _ (by unfold cu; decide) (by decide), hh _ (by unfold cu; decide) (by decide), hh _ (by unfold cu; decide) (by decide), hh _ (by unfold cu; decide) (by decide), k _ (by unfold cu; decide) (by decide) _, k _ (by unfold cu; decide) (by decide) _, k _ (by unfold cu; decide) (by decide) _⟩
 intro e2
 rcases h with h | ⟨-, c, t, hr⟩
 ·
  exact Ry ((List.cons.inj e2).1 ▸ h)
 ·
  rw [hr] at e2; cases (List.cons.inj e2).2
theorem OJ (s : List UInt8) : trimSuffix (replaceAll s [39] [39, 39] ++ [39]) [39] = replaceAll s [39] [39, 39] := by
 have h2 : hasSuffix (replaceAll s [39] [39, 39] ++ [39]) [39] = true := by
  unfold hasSuffix
  rw [List.isSuffixOf_iff_suffix]
  exact ⟨_, rfl⟩
 unfold trimSuffix
 rw [if_pos h2]
 simp
theorem rW {k n : Int} {s : List UInt8} {l : List Int} (h : KL k n s l) : dA (showT k n s l) = some ⟨k, n, s, l⟩ := by
 cases h with
 | none_ => decide +kernel
 | word h1 h2 =>
  obtain rfl | rfl | rfl : n = 1 ∨ n = 2 ∨ n = 3 := by omega
  all_goals rfl
 | num h1 h2 =>
  obtain ⟨a1, a2, a3, a4, a5, a6, a7, a8, a9, a10, a11⟩ := NF h1 h2
  show dA (mJ n) = _
  unfold dA
  rw [if_neg a1, if_neg a2, if_neg a3, if_neg a4, if_neg a5, if_neg a6, if_neg a7, if_neg a8, if_neg a9, if_neg a10, if_neg a11, RJ h1 h2]
  rfl
 | text s =>
  show dA (vZ s) = _
  unfold dA vZ
  rw [if_neg (by simp), if_neg (by simp), if_neg (by simp [iP]), if_neg (by simp [dV]), if_pos (by simp)]
  simp only [List.cons_append, List.tail_cons]
  rw [OJ, back]
 | code h1 h2 =>
  show dA (dh n) = _
  have hw := yw (n := n.toNat) (by have := cO 2 n.toNat (by omega); omega)
  rw [lg (by omega)]
  unfold dA
  rw [if_neg (by simp), if_neg (by simp), if_neg (by simp [iP]), if_neg (by simp [dV]), if_neg (by simp), if_pos (by simp)]
  simp only [List.tail_cons, hw, if_true]
  rw [show ((n.toNat : Nat) : Int) = n by omega]
 | set h =>
  show dA (kW l) = _
  have e : (kW l).head? = some 123 := by simp [kW]
  unfold dA
  rw [if_neg (by simp [kW]), if_neg (by simp [kW]), if_neg (by simp [kW, iP]), if_neg (by simp [kW, dV]), if_neg (by rw [e]; simp), if_neg (by rw [e]; simp), if_pos e, RP h]
  rfl
 | day h1 h2 =>
  show dA (jB n) = _
  have e : (jB n).head? = some 64 := by simp [jB]
  unfold dA
  rw [if_neg (by simp [jB]), if_neg (by simp [jB]), if_neg (by simp [jB, iP]), if_neg (by simp [jB, dV]), if_neg (by rw [e]; simp), if_neg (by rw [e]; simp), if_neg (by rw [e]; simp), if_pos e, RY h1 h2]
  rfl
 | bool h1 h2 =>
  obtain rfl | rfl : n = 0 ∨ n = 1 := by omega
  all_goals rfl
theorem OL {k n : Int} {s : List UInt8} {l : List Int} (h : KL k n s l) : gZ (showT k n s l) = ⟨k, n, s, l⟩ := by
 cases h with
 | none_ => rfl
 | word h1 h2 =>
  obtain rfl | rfl | rfl : n = 1 ∨ n = 2 ∨ n = 3 := by omega
  all_goals rfl
 | num h1 h2 =>
  obtain ⟨a1, a2, a3, a4, a5, a6, a7, a8, a9, a10, a11⟩ := NF h1 h2
  show gZ (mJ n) = _
  unfold gZ
  rw [if_neg a9, if_neg a10, if_neg a11, if_neg a2, if_neg a3, if_neg a4, if_neg (fun h => a5 h.2), if_neg a6, if_neg a7, if_neg (fun h => a8 h.2), VD h1 h2]
 | text s =>
  show gZ (vZ s) = _
  unfold gZ vZ
  rw [if_neg (by simp [OC]), if_neg (by simp [OD]), if_neg (by simp [OE]), if_neg (by simp), if_neg (by simp [iP]), if_neg (by simp [dV]), if_pos (by simp)]
  have e : ((39 :: replaceAll s [39] [39, 39] ++ [39]).take ((39 :: replaceAll s [39] [39, 39] ++ [39]).length - 1)).drop 1 = replaceAll s [39] [39, 39] := by
   generalize replaceAll s [39] [39, 39] = E
   have hl : (39 :: E ++ [39]).length - 1 = (39 :: E).length := by simp
   rw [hl, List.take_left]
   rfl
  rw [e, back]
 | code h1 h2 =>
  show gZ (dh n) = _
  rw [lg (by omega)]
  unfold gZ
  rw [if_neg (by simp [OC]), if_neg (by simp [OD]), if_neg (by simp [OE]), if_neg (by simp), if_neg (by simp [iP]), if_neg (by simp [dV]), if_neg (by simp), if_pos (by simp)]
  simp only [List.tail_cons]
  rw [yz (Nat.lt_of_le_of_lt (show n.toNat ≤ 999 by omega) (by decide)), show ((n.toNat : Nat) : Int) = n by omega]
 | set h =>
  show gZ (kW l) = _
  have e : (kW l).head? = some 123 := by simp [kW]
  unfold gZ
  rw [if_neg (by simp [kW, OC]), if_neg (by simp [kW, OD]), if_neg (by simp [kW, OE]), if_neg (by simp [kW]), if_neg (by simp [kW, iP]), if_neg (by simp [kW, dV]), if_neg (by rw [e]; simp), if_neg (by rw [e]; simp), if_pos e, RU h]
 | day h1 h2 =>
  show gZ (jB n) = _
  have e : (jB n).head? = some 64 := by simp [jB]
  obtain ⟨d1, d2, d3⟩ := RZ h1 h2
  unfold gZ
  rw [if_neg (by simp [jB, OC]), if_neg (by simp [jB, OD]), if_neg (by simp [jB, OE]), if_neg (by simp [jB]), if_neg (by simp [jB, iP]), if_neg (by simp [jB, dV]), if_neg (by rw [e]; simp), if_neg (by rw [e]; simp), if_neg (by rw [e]; simp), if_pos ⟨d1, e⟩, d2, d3]
 | bool h1 h2 =>
  obtain rfl | rfl : n = 0 ∨ n = 1 := by omega
  all_goals rfl
end Go.Proofs.YtobanldeicclmaaGreatDoor.Vtx
