/- The walks of fractions: lowest. · The walk of fraction.ratio: lowest terms, their texts, the limit. · awake: RatioOf(1, 2) is 1/2. -/
import Derived.Test.YtpanbeoelbhhgaaGreatDoorY7
import Derived.Deep.Cut
namespace Go.Proofs.YtpanbeoelbhhgaaGreatDoor
open Go.RowKit Limb Dig
/-- a block of three cells -/
theorem blk_set1 {w : World} {b T : Nat} {a0 a1 a2 u : Value} (h : w.heap[b]? = some (.cells #[a0, a1, a2] T (0, 0))) : (w.setCell ⟨b, 1, none⟩ u).heap[b]? = some (.cells #[a0, u, a2] T (0, 0)) := by
  simp [World.setCell, Array.getElem?_modify, h]
theorem blk_set2 {w : World} {b T : Nat} {a0 a1 a2 u : Value} (h : w.heap[b]? = some (.cells #[a0, a1, a2] T (0, 0))) : (w.setCell ⟨b, 2, none⟩ u).heap[b]? = some (.cells #[a0, a1, u] T (0, 0)) := by
  simp [World.setCell, Array.getElem?_modify, h]
theorem blk_set0 {w : World} {b T : Nat} {a0 a1 a2 u : Value} (h : w.heap[b]? = some (.cells #[a0, a1, a2] T (0, 0))) : (w.setCell ⟨b, 0, none⟩ u).heap[b]? = some (.cells #[u, a1, a2] T (0, 0)) := by
  simp [World.setCell, Array.getElem?_modify, h]
/-- a store into a cell that holds a slice turns no natural -/
theorem Rep.box {w : World} {L x : Nat} {v o : Value} {p : Addr} (h : Rep w L v x) (hp : w.cell? p = some o) (u : Value) (ho : ∀ z, o ≠ .int .u64 z := by intro z e; cases e) : Rep (w.setCell p u) L v x := by
  obtain ⟨l, A', c', h1, h2, h3, h4, h5, h6⟩ := h.ex
  refine ⟨l, A', c', h1, h2, h3, h4, ⟨h5.1, fun h0 => ?_⟩, h6⟩
  obtain ⟨ad, e, hb, hc⟩ := h5.2 h0
  refine ⟨ad, e, by simpa [World.setCell] using hb, fun k z hz => ?_⟩
  have hcz := hc k z hz
  rw [World.cell?_setCell_other w p (ad.add k) u (fun e' => ?_)]
  · exact hcz
  · obtain ⟨_, rfl⟩ := limV_get _ _ _ hz
    rw [e'] at hp
    rw [hp] at hcz
    exact ho _ (Option.some.inj hcz)
/-- a fraction's value in memory: sign, numerator, denominator (a natural > 0), in at most L limbs -/
structure Frac (w : World) (L : Nat) (v : Value) (neg : Bool) (x y : Nat) : Prop where
  ex : ∃ n d, v = .agg #[.bool neg, n, d] ∧ Rep w L n x ∧ Rep w L d y ∧ 0 < y
theorem div_gcd_pos {x y : Nat} (hy : 0 < y) : 0 < x / Nat.gcd x y ↔ 0 < x := by
  constructor
  · intro h
    rcases Nat.eq_zero_or_pos x with rfl | h'
    · simp at h
    · exact h'
  · intro h
    exact Nat.div_pos (Nat.gcd_le_left y h) (Nat.gcd_pos_of_pos_right x hy)
set_option maxHeartbeats 1000000 in
set_option maxRecDepth 100000 in
theorem lowest_any (w : World) (L x y : Nat) (v : Value) (neg : Bool) (h : Frac w L v neg x y) (hL : L ≤ 100000) :
    Calls Tryz.prog 66 #[v] w fun e w' => (∃ r, e = .returned r ∧ Frac w' L r (neg && decide (0 < x)) (x / Nat.gcd x y) (y / Nat.gcd x y)) ∧ Below w.heap.size w w' := by
  obtain ⟨vn, vd, rfl, hn, hd, hy⟩ := h.ex
  have HN := Lib.hid hn
  have HD := Lib.hid hd
  have HG := Lib.hid (Nat.gcd_pos_of_pos_right x hy)
  obtain ⟨An, ln, cn, rfl, hn1, hn2⟩ := hn.form
  obtain ⟨Ad, ld, cd, rfl, hd1, hd2⟩ := hd.form
  clear hn hd h hn1 hd1
  go_enter Tryz.func66, Tryz.ntmps66
  obtain ⟨W, hW⟩ : ∃ W, W = (w.alloc (.cells #[.bool neg, .slice An ln cn, .slice Ad ld cd] 85 (0, 0))).alloc (.cells #[.bool false, .slice none 0 0, .slice none 0 0] 85 (0, 0)) := ⟨_, rfl⟩
  have B0 : W.heap[w.heap.size]? = some (.cells #[.bool neg, .slice An ln cn, .slice Ad ld cd] 85 (0, 0)) := by
    rw [hW, Below.heap_alloc _ _ _ (by simp)]
    show (w.heap.push _)[w.heap.size]? = _
    rw [Array.getElem?_push, if_pos rfl]
  have B1 : W.heap[w.heap.size + 1]? = some (.cells #[.bool false, .slice none 0 0, .slice none 0 0] 85 (0, 0)) := by
    rw [hW]
    show ((w.heap.push _).push _)[w.heap.size + 1]? = _
    rw [Array.getElem?_push, if_pos (by simp)]
  have hsz : W.heap.size = w.heap.size + 2 := by rw [hW]; simp
  have hb : Below w.heap.size w W := by rw [hW]; exact ((Below.refl _ w).alloc (Nat.le_refl _) _).alloc (by simp) _
  have HW := Lib.hid hW
  clear hW
  go_wp2_with fail
  rw [← HW.out]
  refine (gcd_rep W L _ _ x y (HN.out.below hb) (HD.out.below hb) hL).mono ?_
  rintro e w1 ⟨⟨g, rfl, hg⟩, hb1⟩
  have HGR := Lib.hid hg
  clear hg
  have B0 := (hb1.block _ (by omega)).trans B0
  have B1 := (hb1.block _ (by omega)).trans B1
  have hs1 := hb1.size
  have hbw1 := hb.trans (hb1.mono (by omega))
  have c1 : w1.cell? ⟨w.heap.size, 1, none⟩ = some (.slice An ln cn) := by rw [Lib.cell_of_heap B0]; rfl
  have f1 : w1.frozen? ⟨w.heap.size, 1, none⟩ = false := Lib.frozen_of_heap B0 1
  go_wp2_with fail
  refine (over_rep w1 L L _ _ x (Nat.gcd x y) (HN.out.below hbw1) HGR.out hL hL HG.out).mono ?_
  rintro e w2 ⟨⟨q, r, rfl, hq, _⟩, hb2⟩
  have HQ := Lib.hid hq
  obtain ⟨Aq, lq, cq, rfl, hq1, hq2⟩ := hq.form
  clear hq
  have B0 := (hb2.block _ (by omega)).trans B0
  have B1 := (hb2.block _ (by omega)).trans B1
  have hs2 := hb2.size
  have hbw2 := hbw1.trans (hb2.mono hbw1.size)
  have c1 : w2.cell? ⟨w.heap.size, 1, none⟩ = some (.slice An ln cn) := by rw [Lib.cell_of_heap B0]; rfl
  have f1 : w2.frozen? ⟨w.heap.size, 1, none⟩ = false := Lib.frozen_of_heap B0 1
  go_upto_region 3 with (fail)
  obtain ⟨W2, hW2⟩ : ∃ W2, W2 = w2.setCell ⟨w.heap.size, 1, none⟩ (.slice Aq lq cq) := ⟨_, rfl⟩
  have HQ2 := Lib.hid (hW2 ▸ HQ.out.box c1 (.slice Aq lq cq) : Rep W2 L (.slice Aq lq cq) (x / Nat.gcd x y))
  have HG2 := Lib.hid (hW2 ▸ (HGR.out.below hb2).box c1 (.slice Aq lq cq) : Rep W2 L g (Nat.gcd x y))
  have B0 : W2.heap[w.heap.size]? = some (.cells #[.bool neg, .slice Aq lq cq, .slice Ad ld cd] 85 (0, 0)) := hW2 ▸ blk_set1 B0
  have B1 : W2.heap[w.heap.size + 1]? = some (.cells #[.bool false, .slice none 0 0, .slice none 0 0] 85 (0, 0)) := by rw [hW2, Below.heap_setCell _ _ _ _ (by show w.heap.size + 1 ≠ w.heap.size; omega)]; exact B1
  have hs3 : W2.heap.size = w2.heap.size := by rw [hW2]; simp [World.setCell]
  have hbw3 : Below w.heap.size w W2 := by rw [hW2]; exact hbw2.setCell (p := ⟨w.heap.size, 1, none⟩) (Nat.le_refl _) _
  rw [← hW2]
  clear hW2 c1 f1
  have c2 : W2.cell? ⟨w.heap.size, 2, none⟩ = some (.slice Ad ld cd) := by rw [Lib.cell_of_heap B0]; rfl
  go_wp2_with fail
  refine (over_rep W2 L L _ _ y (Nat.gcd x y) (HD.out.below hbw3) HG2.out hL hL HG.out).mono ?_
  rintro e w3 ⟨⟨q', r', rfl, hq', _⟩, hb3⟩
  have HQ' := Lib.hid hq'
  obtain ⟨Aq', lq', cq', rfl, hq1', hq2'⟩ := hq'.form
  clear hq'
  have B0 := (hb3.block _ (by omega)).trans B0
  have B1 := (hb3.block _ (by omega)).trans B1
  have hs4 := hb3.size
  have hbw4 := hbw3.trans (hb3.mono hbw3.size)
  have c2 : w3.cell? ⟨w.heap.size, 2, none⟩ = some (.slice Ad ld cd) := by rw [Lib.cell_of_heap B0]; rfl
  have f2 : w3.frozen? ⟨w.heap.size, 2, none⟩ = false := Lib.frozen_of_heap B0 2
  go_upto_region 4 with (fail)
  obtain ⟨W4, hW4⟩ : ∃ W4, W4 = w3.setCell ⟨w.heap.size, 2, none⟩ (.slice Aq' lq' cq') := ⟨_, rfl⟩
  have HQ4 := Lib.hid (hW4 ▸ (HQ2.out.below hb3).box c2 (.slice Aq' lq' cq') : Rep W4 L (.slice Aq lq cq) (x / Nat.gcd x y))
  have HD4 := Lib.hid (hW4 ▸ HQ'.out.box c2 (.slice Aq' lq' cq') : Rep W4 L (.slice Aq' lq' cq') (y / Nat.gcd x y))
  have B0 : W4.heap[w.heap.size]? = some (.cells #[.bool neg, .slice Aq lq cq, .slice Aq' lq' cq'] 85 (0, 0)) := hW4 ▸ blk_set2 B0
  have B1 : W4.heap[w.heap.size + 1]? = some (.cells #[.bool false, .slice none 0 0, .slice none 0 0] 85 (0, 0)) := by rw [hW4, Below.heap_setCell _ _ _ _ (by show w.heap.size + 1 ≠ w.heap.size; omega)]; exact B1
  have hbw5 : Below w.heap.size w W4 := by rw [hW4]; exact hbw4.setCell (p := ⟨w.heap.size, 2, none⟩) (Nat.le_refl _) _
  have hs5 : W4.heap.size = w3.heap.size := by rw [hW4]; simp [World.setCell]
  rw [← hW4]
  clear hW4 c2 f2
  have HQ0 := Lib.hid (hq1.trans (div_gcd_pos hy))
  clear hq1 hq1'
  have c0 : W4.cell? ⟨w.heap.size, 0, none⟩ = some (.bool neg) := by rw [Lib.cell_of_heap B0]; rfl
  have c1 : W4.cell? ⟨w.heap.size, 1, none⟩ = some (.slice Aq lq cq) := by rw [Lib.cell_of_heap B0]; rfl
  have c2 : W4.cell? ⟨w.heap.size, 2, none⟩ = some (.slice Aq' lq' cq') := by rw [Lib.cell_of_heap B0]; rfl
  have f0 : W4.frozen? ⟨w.heap.size, 0, none⟩ = false := Lib.frozen_of_heap B0 0
  cases neg
  · go_upto_region 5 with (fail)
    obtain ⟨W5, hW5⟩ : ∃ W5, W5 = W4.setCell ⟨w.heap.size, 0, none⟩ (.bool false) := ⟨_, rfl⟩
    have HQ5 := Lib.hid (hW5 ▸ HQ4.out.box c0 (.bool false) : Rep W5 L (.slice Aq lq cq) (x / Nat.gcd x y))
    have HD5 := Lib.hid (hW5 ▸ HD4.out.box c0 (.bool false) : Rep W5 L (.slice Aq' lq' cq') (y / Nat.gcd x y))
    have B0 : W5.heap[w.heap.size]? = some (.cells #[.bool false, .slice Aq lq cq, .slice Aq' lq' cq'] 85 (0, 0)) := hW5 ▸ blk_set0 B0
    have B1 : W5.heap[w.heap.size + 1]? = some (.cells #[.bool false, .slice none 0 0, .slice none 0 0] 85 (0, 0)) := by rw [hW5, Below.heap_setCell _ _ _ _ (by show w.heap.size + 1 ≠ w.heap.size; omega)]; exact B1
    have hbw6 : Below w.heap.size w W5 := by rw [hW5]; exact hbw5.setCell (p := ⟨w.heap.size, 0, none⟩) (Nat.le_refl _) _
    rw [← hW5]
    clear hW5 c0 c1 c2 f0
    have c0 : W5.cell? ⟨w.heap.size, 0, none⟩ = some (.bool false) := by rw [Lib.cell_of_heap B0]; rfl
    have c1 : W5.cell? ⟨w.heap.size, 1, none⟩ = some (.slice Aq lq cq) := by rw [Lib.cell_of_heap B0]; rfl
    have c2 : W5.cell? ⟨w.heap.size, 2, none⟩ = some (.slice Aq' lq' cq') := by rw [Lib.cell_of_heap B0]; rfl
    have d0 : W5.cell? ⟨w.heap.size + 1, 0, none⟩ = some (.bool false) := by rw [Lib.cell_of_heap B1]; rfl
    have d1 : W5.cell? ⟨w.heap.size + 1, 1, none⟩ = some (.slice none 0 0) := by rw [Lib.cell_of_heap B1]; rfl
    have d2 : W5.cell? ⟨w.heap.size + 1, 2, none⟩ = some (.slice none 0 0) := by rw [Lib.cell_of_heap B1]; rfl
    have f0 : W5.frozen? ⟨w.heap.size + 1, 0, none⟩ = false := Lib.frozen_of_heap B1 0
    have f1 : W5.frozen? ⟨w.heap.size + 1, 1, none⟩ = false := Lib.frozen_of_heap B1 1
    have f2 : W5.frozen? ⟨w.heap.size + 1, 2, none⟩ = false := Lib.frozen_of_heap B1 2
    go_wp2
    obtain ⟨W6, hW6⟩ : ∃ W6, W6 = ((W5.setCell ⟨w.heap.size + 1, 0, none⟩ (.bool false)).setCell ⟨w.heap.size + 1, 1, none⟩ (.slice Aq lq cq)).setCell ⟨w.heap.size + 1, 2, none⟩ (.slice Aq' lq' cq') := ⟨_, rfl⟩
    have B6 : W6.heap[w.heap.size + 1]? = some (.cells #[.bool false, .slice Aq lq cq, .slice Aq' lq' cq'] 85 (0, 0)) := hW6 ▸ blk_set2 (blk_set1 (blk_set0 B1))
    have e1 : (W5.setCell ⟨w.heap.size + 1, 0, none⟩ (.bool false)).cell? ⟨w.heap.size + 1, 1, none⟩ = some (.slice none 0 0) := by rw [Lib.cell_of_heap (blk_set0 B1)]; rfl
    have e2 : ((W5.setCell ⟨w.heap.size + 1, 0, none⟩ (.bool false)).setCell ⟨w.heap.size + 1, 1, none⟩ (.slice Aq lq cq)).cell? ⟨w.heap.size + 1, 2, none⟩ = some (.slice none 0 0) := by rw [Lib.cell_of_heap (blk_set1 (blk_set0 B1))]; rfl
    have HQ6 := Lib.hid (hW6 ▸ ((HQ5.out.box d0 (.bool false)).box e1 (.slice Aq lq cq)).box e2 (.slice Aq' lq' cq') : Rep W6 L (.slice Aq lq cq) (x / Nat.gcd x y))
    have HD6 := Lib.hid (hW6 ▸ ((HD5.out.box d0 (.bool false)).box e1 (.slice Aq lq cq)).box e2 (.slice Aq' lq' cq') : Rep W6 L (.slice Aq' lq' cq') (y / Nat.gcd x y))
    have hbw7 : Below w.heap.size w W6 := by
      rw [hW6]
      exact ((hbw6.setCell (p := ⟨w.heap.size + 1, 0, none⟩) (Nat.le_succ _) _).setCell (p := ⟨w.heap.size + 1, 1, none⟩) (Nat.le_succ _) _).setCell (p := ⟨w.heap.size + 1, 2, none⟩) (Nat.le_succ _) _
    rw [← hW6]
    clear hW6 e1 e2 d0 d1 d2 f0 f1 f2 c0 c1 c2
    have c0 : W6.cell? ⟨w.heap.size + 1, 0, none⟩ = some (.bool false) := by rw [Lib.cell_of_heap B6]; rfl
    have c1 : W6.cell? ⟨w.heap.size + 1, 1, none⟩ = some (.slice Aq lq cq) := by rw [Lib.cell_of_heap B6]; rfl
    have c2 : W6.cell? ⟨w.heap.size + 1, 2, none⟩ = some (.slice Aq' lq' cq') := by rw [Lib.cell_of_heap B6]; rfl
    refine bodyPost_ret (v := .agg #[.bool false, .slice Aq lq cq, .slice Aq' lq' cq']) (by simp [results, Tryz.results66, go_sem, c0, c1, c2]) rfl ⟨⟨_, rfl, ⟨⟨_, _, by simp [c0], HQ6.out, HD6.out, Nat.div_pos (Nat.gcd_le_right x hy) HG.out⟩⟩⟩, hbw7⟩
  · by_cases hx0 : 0 < lq
    · have hxx : decide (0 < x) = true := decide_eq_true (HQ0.out.1 hx0)
      go_upto_region 5 with (fail)
      obtain ⟨W5, hW5⟩ : ∃ W5, W5 = W4.setCell ⟨w.heap.size, 0, none⟩ (.bool true) := ⟨_, rfl⟩
      have HQ5 := Lib.hid (hW5 ▸ HQ4.out.box c0 (.bool true) : Rep W5 L (.slice Aq lq cq) (x / Nat.gcd x y))
      have HD5 := Lib.hid (hW5 ▸ HD4.out.box c0 (.bool true) : Rep W5 L (.slice Aq' lq' cq') (y / Nat.gcd x y))
      have B0 : W5.heap[w.heap.size]? = some (.cells #[.bool true, .slice Aq lq cq, .slice Aq' lq' cq'] 85 (0, 0)) := hW5 ▸ blk_set0 B0
      have B1 : W5.heap[w.heap.size + 1]? = some (.cells #[.bool false, .slice none 0 0, .slice none 0 0] 85 (0, 0)) := by rw [hW5, Below.heap_setCell _ _ _ _ (by show w.heap.size + 1 ≠ w.heap.size; omega)]; exact B1
      have hbw6 : Below w.heap.size w W5 := by rw [hW5]; exact hbw5.setCell (p := ⟨w.heap.size, 0, none⟩) (Nat.le_refl _) _
      rw [← hW5]
      clear hW5 c0 c1 c2 f0
      have c0 : W5.cell? ⟨w.heap.size, 0, none⟩ = some (.bool true) := by rw [Lib.cell_of_heap B0]; rfl
      have c1 : W5.cell? ⟨w.heap.size, 1, none⟩ = some (.slice Aq lq cq) := by rw [Lib.cell_of_heap B0]; rfl
      have c2 : W5.cell? ⟨w.heap.size, 2, none⟩ = some (.slice Aq' lq' cq') := by rw [Lib.cell_of_heap B0]; rfl
      have d0 : W5.cell? ⟨w.heap.size + 1, 0, none⟩ = some (.bool false) := by rw [Lib.cell_of_heap B1]; rfl
      have d1 : W5.cell? ⟨w.heap.size + 1, 1, none⟩ = some (.slice none 0 0) := by rw [Lib.cell_of_heap B1]; rfl
      have d2 : W5.cell? ⟨w.heap.size + 1, 2, none⟩ = some (.slice none 0 0) := by rw [Lib.cell_of_heap B1]; rfl
      have f0 : W5.frozen? ⟨w.heap.size + 1, 0, none⟩ = false := Lib.frozen_of_heap B1 0
      have f1 : W5.frozen? ⟨w.heap.size + 1, 1, none⟩ = false := Lib.frozen_of_heap B1 1
      have f2 : W5.frozen? ⟨w.heap.size + 1, 2, none⟩ = false := Lib.frozen_of_heap B1 2
      go_wp2
      obtain ⟨W6, hW6⟩ : ∃ W6, W6 = ((W5.setCell ⟨w.heap.size + 1, 0, none⟩ (.bool true)).setCell ⟨w.heap.size + 1, 1, none⟩ (.slice Aq lq cq)).setCell ⟨w.heap.size + 1, 2, none⟩ (.slice Aq' lq' cq') := ⟨_, rfl⟩
      have B6 : W6.heap[w.heap.size + 1]? = some (.cells #[.bool true, .slice Aq lq cq, .slice Aq' lq' cq'] 85 (0, 0)) := hW6 ▸ blk_set2 (blk_set1 (blk_set0 B1))
      have e1 : (W5.setCell ⟨w.heap.size + 1, 0, none⟩ (.bool true)).cell? ⟨w.heap.size + 1, 1, none⟩ = some (.slice none 0 0) := by rw [Lib.cell_of_heap (blk_set0 B1)]; rfl
      have e2 : ((W5.setCell ⟨w.heap.size + 1, 0, none⟩ (.bool true)).setCell ⟨w.heap.size + 1, 1, none⟩ (.slice Aq lq cq)).cell? ⟨w.heap.size + 1, 2, none⟩ = some (.slice none 0 0) := by rw [Lib.cell_of_heap (blk_set1 (blk_set0 B1))]; rfl
      have HQ6 := Lib.hid (hW6 ▸ ((HQ5.out.box d0 (.bool true)).box e1 (.slice Aq lq cq)).box e2 (.slice Aq' lq' cq') : Rep W6 L (.slice Aq lq cq) (x / Nat.gcd x y))
      have HD6 := Lib.hid (hW6 ▸ ((HD5.out.box d0 (.bool true)).box e1 (.slice Aq lq cq)).box e2 (.slice Aq' lq' cq') : Rep W6 L (.slice Aq' lq' cq') (y / Nat.gcd x y))
      have hbw7 : Below w.heap.size w W6 := by
        rw [hW6]
        exact ((hbw6.setCell (p := ⟨w.heap.size + 1, 0, none⟩) (Nat.le_succ _) _).setCell (p := ⟨w.heap.size + 1, 1, none⟩) (Nat.le_succ _) _).setCell (p := ⟨w.heap.size + 1, 2, none⟩) (Nat.le_succ _) _
      rw [← hW6]
      clear hW6 e1 e2 d0 d1 d2 f0 f1 f2 c0 c1 c2
      have c0 : W6.cell? ⟨w.heap.size + 1, 0, none⟩ = some (.bool true) := by rw [Lib.cell_of_heap B6]; rfl
      have c1 : W6.cell? ⟨w.heap.size + 1, 1, none⟩ = some (.slice Aq lq cq) := by rw [Lib.cell_of_heap B6]; rfl
      have c2 : W6.cell? ⟨w.heap.size + 1, 2, none⟩ = some (.slice Aq' lq' cq') := by rw [Lib.cell_of_heap B6]; rfl
      refine bodyPost_ret (v := .agg #[.bool true, .slice Aq lq cq, .slice Aq' lq' cq']) (by simp [results, Tryz.results66, go_sem, c0, c1, c2]) rfl ⟨⟨_, rfl, ⟨⟨_, _, by simp [hxx], HQ6.out, HD6.out, Nat.div_pos (Nat.gcd_le_right x hy) HG.out⟩⟩⟩, hbw7⟩
    · have hxx : decide (0 < x) = false := decide_eq_false (fun h => hx0 (HQ0.out.2 h))
      go_upto_region 5 with (fail)
      obtain ⟨W5, hW5⟩ : ∃ W5, W5 = W4.setCell ⟨w.heap.size, 0, none⟩ (.bool false) := ⟨_, rfl⟩
      have HQ5 := Lib.hid (hW5 ▸ HQ4.out.box c0 (.bool false) : Rep W5 L (.slice Aq lq cq) (x / Nat.gcd x y))
      have HD5 := Lib.hid (hW5 ▸ HD4.out.box c0 (.bool false) : Rep W5 L (.slice Aq' lq' cq') (y / Nat.gcd x y))
      have B0 : W5.heap[w.heap.size]? = some (.cells #[.bool false, .slice Aq lq cq, .slice Aq' lq' cq'] 85 (0, 0)) := hW5 ▸ blk_set0 B0
      have B1 : W5.heap[w.heap.size + 1]? = some (.cells #[.bool false, .slice none 0 0, .slice none 0 0] 85 (0, 0)) := by rw [hW5, Below.heap_setCell _ _ _ _ (by show w.heap.size + 1 ≠ w.heap.size; omega)]; exact B1
      have hbw6 : Below w.heap.size w W5 := by rw [hW5]; exact hbw5.setCell (p := ⟨w.heap.size, 0, none⟩) (Nat.le_refl _) _
      rw [← hW5]
      clear hW5 c0 c1 c2 f0
      have c0 : W5.cell? ⟨w.heap.size, 0, none⟩ = some (.bool false) := by rw [Lib.cell_of_heap B0]; rfl
      have c1 : W5.cell? ⟨w.heap.size, 1, none⟩ = some (.slice Aq lq cq) := by rw [Lib.cell_of_heap B0]; rfl
      have c2 : W5.cell? ⟨w.heap.size, 2, none⟩ = some (.slice Aq' lq' cq') := by rw [Lib.cell_of_heap B0]; rfl
      have d0 : W5.cell? ⟨w.heap.size + 1, 0, none⟩ = some (.bool false) := by rw [Lib.cell_of_heap B1]; rfl
      have d1 : W5.cell? ⟨w.heap.size + 1, 1, none⟩ = some (.slice none 0 0) := by rw [Lib.cell_of_heap B1]; rfl
      have d2 : W5.cell? ⟨w.heap.size + 1, 2, none⟩ = some (.slice none 0 0) := by rw [Lib.cell_of_heap B1]; rfl
      have f0 : W5.frozen? ⟨w.heap.size + 1, 0, none⟩ = false := Lib.frozen_of_heap B1 0
      have f1 : W5.frozen? ⟨w.heap.size + 1, 1, none⟩ = false := Lib.frozen_of_heap B1 1
      have f2 : W5.frozen? ⟨w.heap.size + 1, 2, none⟩ = false := Lib.frozen_of_heap B1 2
      go_wp2
      obtain ⟨W6, hW6⟩ : ∃ W6, W6 = ((W5.setCell ⟨w.heap.size + 1, 0, none⟩ (.bool false)).setCell ⟨w.heap.size + 1, 1, none⟩ (.slice Aq lq cq)).setCell ⟨w.heap.size + 1, 2, none⟩ (.slice Aq' lq' cq') := ⟨_, rfl⟩
      have B6 : W6.heap[w.heap.size + 1]? = some (.cells #[.bool false, .slice Aq lq cq, .slice Aq' lq' cq'] 85 (0, 0)) := hW6 ▸ blk_set2 (blk_set1 (blk_set0 B1))
      have e1 : (W5.setCell ⟨w.heap.size + 1, 0, none⟩ (.bool false)).cell? ⟨w.heap.size + 1, 1, none⟩ = some (.slice none 0 0) := by rw [Lib.cell_of_heap (blk_set0 B1)]; rfl
      have e2 : ((W5.setCell ⟨w.heap.size + 1, 0, none⟩ (.bool false)).setCell ⟨w.heap.size + 1, 1, none⟩ (.slice Aq lq cq)).cell? ⟨w.heap.size + 1, 2, none⟩ = some (.slice none 0 0) := by rw [Lib.cell_of_heap (blk_set1 (blk_set0 B1))]; rfl
      have HQ6 := Lib.hid (hW6 ▸ ((HQ5.out.box d0 (.bool false)).box e1 (.slice Aq lq cq)).box e2 (.slice Aq' lq' cq') : Rep W6 L (.slice Aq lq cq) (x / Nat.gcd x y))
      have HD6 := Lib.hid (hW6 ▸ ((HD5.out.box d0 (.bool false)).box e1 (.slice Aq lq cq)).box e2 (.slice Aq' lq' cq') : Rep W6 L (.slice Aq' lq' cq') (y / Nat.gcd x y))
      have hbw7 : Below w.heap.size w W6 := by
        rw [hW6]
        exact ((hbw6.setCell (p := ⟨w.heap.size + 1, 0, none⟩) (Nat.le_succ _) _).setCell (p := ⟨w.heap.size + 1, 1, none⟩) (Nat.le_succ _) _).setCell (p := ⟨w.heap.size + 1, 2, none⟩) (Nat.le_succ _) _
      rw [← hW6]
      clear hW6 e1 e2 d0 d1 d2 f0 f1 f2 c0 c1 c2
      have c0 : W6.cell? ⟨w.heap.size + 1, 0, none⟩ = some (.bool false) := by rw [Lib.cell_of_heap B6]; rfl
      have c1 : W6.cell? ⟨w.heap.size + 1, 1, none⟩ = some (.slice Aq lq cq) := by rw [Lib.cell_of_heap B6]; rfl
      have c2 : W6.cell? ⟨w.heap.size + 1, 2, none⟩ = some (.slice Aq' lq' cq') := by rw [Lib.cell_of_heap B6]; rfl
      refine bodyPost_ret (v := .agg #[.bool false, .slice Aq lq cq, .slice Aq' lq' cq']) (by simp [results, Tryz.results66, go_sem, c0, c1, c2]) rfl ⟨⟨_, rfl, ⟨⟨_, _, by simp [hxx], HQ6.out, HD6.out, Nat.div_pos (Nat.gcd_le_right x hy) HG.out⟩⟩⟩, hbw7⟩
end Go.Proofs.YtpanbeoelbhhgaaGreatDoor
namespace Go.Proofs.YtpanbeoelbhhgaaGreatDoor
open Go.RowKit Limb Dig
theorem blk2_set0 {w : World} {b T : Nat} {a0 a1 u : Value} (h : w.heap[b]? = some (.cells #[a0, a1] T (0, 0))) : (w.setCell ⟨b, 0, none⟩ u).heap[b]? = some (.cells #[u, a1] T (0, 0)) := by
  simp [World.setCell, Array.getElem?_modify, h]
theorem blk2_set1 {w : World} {b T : Nat} {a0 a1 u : Value} (h : w.heap[b]? = some (.cells #[a0, a1] T (0, 0))) : (w.setCell ⟨b, 1, none⟩ u).heap[b]? = some (.cells #[a0, u] T (0, 0)) := by
  simp [World.setCell, Array.getElem?_modify, h]
def numTR9 (neg : Bool) (x y : Nat) : List UInt8 := (if neg && decide (0 < x) then [45] else []) ++ decS (x / Nat.gcd x y)
def denT (x y : Nat) : List UInt8 := decS (y / Nat.gcd x y)
def bigT (x y : Nat) : Prop := 2000 < (decS (x / Nat.gcd x y)).length ∨ 2000 < (denT x y).length
instance (x y : Nat) : Decidable (bigT x y) := by unfold bigT; infer_instance
def ratioE (neg : Bool) (x y : Nat) : Value := if bigT x y then .tuple #[.agg #[.string ⟨#[]⟩, .string ⟨#[]⟩], .int .i64 2] else .tuple #[.agg #[.string ⟨(numTR9 neg x y).toArray⟩, .string ⟨(denT x y).toArray⟩], .int .i64 0]
set_option maxHeartbeats 1000000 in
set_option maxRecDepth 100000 in
theorem ratio_any (w : World) (L x y : Nat) (v : Value) (neg : Bool) (h : Frac w L v neg x y) (hL : L ≤ 100000) (htab : TabR9 w) :
    Calls Tryz.prog 33 #[v] w fun e w' => e = .returned (ratioE neg x y) ∧ Below w.heap.size w w' := by
  have HF := Lib.hid h
  have HT := Lib.hid htab
  obtain ⟨vn, vd, rfl, hn, hd, hy⟩ := h.ex
  obtain ⟨An, ln, cn, rfl, hn1, hn2⟩ := hn.form
  obtain ⟨Ad, ld, cd, rfl, hd1, hd2⟩ := hd.form
  clear hn hd h hn1 hd1 htab
  go_enter Tryz.func33, Tryz.ntmps33
  obtain ⟨W, hW⟩ : ∃ W, W = (w.alloc (.cells #[.bool neg, .slice An ln cn, .slice Ad ld cd] 85 (0, 0))).alloc (.cells #[.string ⟨#[]⟩, .string ⟨#[]⟩] 47 (0, 0)) := ⟨_, rfl⟩
  have B0 : W.heap[w.heap.size]? = some (.cells #[.bool neg, .slice An ln cn, .slice Ad ld cd] 85 (0, 0)) := by
    rw [hW, Below.heap_alloc _ _ _ (by simp)]
    show (w.heap.push _)[w.heap.size]? = _
    rw [Array.getElem?_push, if_pos rfl]
  have B1 : W.heap[w.heap.size + 1]? = some (.cells #[.string ⟨#[]⟩, .string ⟨#[]⟩] 47 (0, 0)) := by
    rw [hW]
    show ((w.heap.push _).push _)[w.heap.size + 1]? = _
    rw [Array.getElem?_push, if_pos (by simp)]
  have hsz : W.heap.size = w.heap.size + 2 := by rw [hW]; simp
  have hb : Below w.heap.size w W := by rw [hW]; exact ((Below.refl _ w).alloc (Nat.le_refl _) _).alloc (by simp) _
  have HW := Lib.hid hW
  clear hW
  have HF2 := Lib.hid (show Frac W L (.agg #[.bool neg, .slice An ln cn, .slice Ad ld cd]) neg x y by
    obtain ⟨n', d', e, h1, h2, h3⟩ := HF.out.ex
    exact ⟨⟨n', d', e, h1.below hb, h2.below hb, h3⟩⟩)
  go_wp2_with fail
  rw [← HW.out]
  refine (lowest_any W L x y _ neg HF2.out hL).mono ?_
  rintro e w1 ⟨⟨r, rfl, hr⟩, hb1⟩
  obtain ⟨n', d', rfl, hn', hd', hy'⟩ := hr.ex
  have HN := Lib.hid hn'
  have HD := Lib.hid hd'
  obtain ⟨An', ln', cn', rfl, hn1', hn2'⟩ := hn'.form
  obtain ⟨Ad', ld', cd', rfl, hd1', hd2'⟩ := hd'.form
  clear hn' hd' hr hn1' hd1'
  have B0 := (hb1.block _ (by omega)).trans B0
  have B1 := (hb1.block _ (by omega)).trans B1
  have hs1 := hb1.size
  have hbw1 := hb.trans (hb1.mono (by omega))
  obtain ⟨ng, eng⟩ : ∃ ng, (neg && decide (0 < x)) = ng := ⟨_, rfl⟩
  rw [eng]
  have HNG := Lib.hid eng
  clear eng
  have c0 : w1.cell? ⟨w.heap.size, 0, none⟩ = some (.bool neg) := by rw [Lib.cell_of_heap B0]; rfl
  have c1 : w1.cell? ⟨w.heap.size, 1, none⟩ = some (.slice An ln cn) := by rw [Lib.cell_of_heap B0]; rfl
  have c2 : w1.cell? ⟨w.heap.size, 2, none⟩ = some (.slice Ad ld cd) := by rw [Lib.cell_of_heap B0]; rfl
  have f0 : w1.frozen? ⟨w.heap.size, 0, none⟩ = false := Lib.frozen_of_heap B0 0
  have f1 : w1.frozen? ⟨w.heap.size, 1, none⟩ = false := Lib.frozen_of_heap B0 1
  have f2 : w1.frozen? ⟨w.heap.size, 2, none⟩ = false := Lib.frozen_of_heap B0 2
  go_upto_region 2 with (fail)
  obtain ⟨W5, hW5⟩ : ∃ W5, W5 = ((w1.setCell ⟨w.heap.size, 0, none⟩ (.bool ng)).setCell ⟨w.heap.size, 1, none⟩ (.slice An' ln' cn')).setCell ⟨w.heap.size, 2, none⟩ (.slice Ad' ld' cd') := ⟨_, rfl⟩
  have e1 : (w1.setCell ⟨w.heap.size, 0, none⟩ (.bool ng)).cell? ⟨w.heap.size, 1, none⟩ = some (.slice An ln cn) := by rw [Lib.cell_of_heap (blk_set0 B0)]; rfl
  have e2 : ((w1.setCell ⟨w.heap.size, 0, none⟩ (.bool ng)).setCell ⟨w.heap.size, 1, none⟩ (.slice An' ln' cn')).cell? ⟨w.heap.size, 2, none⟩ = some (.slice Ad ld cd) := by rw [Lib.cell_of_heap (blk_set1 (blk_set0 B0))]; rfl
  have HN5 := Lib.hid (hW5 ▸ ((HN.out.box c0 (.bool ng)).box e1 (.slice An' ln' cn')).box e2 (.slice Ad' ld' cd') : Rep W5 L (.slice An' ln' cn') (x / Nat.gcd x y))
  have HD5 := Lib.hid (hW5 ▸ ((HD.out.box c0 (.bool ng)).box e1 (.slice An' ln' cn')).box e2 (.slice Ad' ld' cd') : Rep W5 L (.slice Ad' ld' cd') (y / Nat.gcd x y))
  have B0 : W5.heap[w.heap.size]? = some (.cells #[.bool ng, .slice An' ln' cn', .slice Ad' ld' cd'] 85 (0, 0)) := hW5 ▸ blk_set2 (blk_set1 (blk_set0 B0))
  have B1 : W5.heap[w.heap.size + 1]? = some (.cells #[.string ⟨#[]⟩, .string ⟨#[]⟩] 47 (0, 0)) := by
    rw [hW5, Below.heap_setCell _ _ _ _ (by show w.heap.size + 1 ≠ w.heap.size; omega), Below.heap_setCell _ _ _ _ (by show w.heap.size + 1 ≠ w.heap.size; omega), Below.heap_setCell _ _ _ _ (by show w.heap.size + 1 ≠ w.heap.size; omega)]
    exact B1
  have hbw5 : Below w.heap.size w W5 := by
    rw [hW5]
    exact ((hbw1.setCell (p := ⟨w.heap.size, 0, none⟩) (Nat.le_refl _) _).setCell (p := ⟨w.heap.size, 1, none⟩) (Nat.le_refl _) _).setCell (p := ⟨w.heap.size, 2, none⟩) (Nat.le_refl _) _
  have hs5 : W5.heap.size = w1.heap.size := by rw [hW5]; simp [World.setCell]
  rw [← hW5]
  clear hW5 e1 e2 c0 c1 c2 f0 f1 f2
  have HT5 := Lib.hid (HT.out.below hbw5)
  have K1 := Lib.hid (fun w' (hb' : Below W5.heap.size W5 w') => digits_any L _ _ w' (HN5.out.below hb') hL (HT5.out.below hb'))
  have K2 := Lib.hid (fun w' (hb' : Below W5.heap.size W5 w') => digits_any L _ _ w' (HD5.out.below hb') hL (HT5.out.below hb'))
  have c1 : W5.cell? ⟨w.heap.size, 1, none⟩ = some (.slice An' ln' cn') := by rw [Lib.cell_of_heap B0]; rfl
  have c2 : W5.cell? ⟨w.heap.size, 2, none⟩ = some (.slice Ad' ld' cd') := by rw [Lib.cell_of_heap B0]; rfl
  have r1 := Later.cell c1
  have r2 := Later.cell c2
  refine wp_region_later (by kernel_rfl) (by kernel_rfl) ?_
  repeat (go_big_quiet_step (first | with_reducible exact Later.call K1.out _ | with_reducible exact Later.call K2.out _))
  refine wpQuiet_nil ?_
  intro W6 hw'
  have hb6 : Below W5.heap.size W5 W6 := by
    obtain ⟨⟨_, hb6⟩, rfl⟩ := hw'
    exact hb6
  clear hw'
  have B0 := (hb6.block _ (by omega)).trans B0
  have B1 := (hb6.block _ (by omega)).trans B1
  have hbw6 := hbw5.trans (hb6.mono (by omega))
  clear r1 r2 c1 c2
  have c0 : W6.cell? ⟨w.heap.size, 0, none⟩ = some (.bool ng) := by rw [Lib.cell_of_heap B0]; rfl
  have d0 : W6.cell? ⟨w.heap.size + 1, 0, none⟩ = some (.string ⟨#[]⟩) := by rw [Lib.cell_of_heap B1]; rfl
  have d1 : W6.cell? ⟨w.heap.size + 1, 1, none⟩ = some (.string ⟨#[]⟩) := by rw [Lib.cell_of_heap B1]; rfl
  have g0 : W6.frozen? ⟨w.heap.size + 1, 0, none⟩ = false := Lib.frozen_of_heap B1 0
  have g1 : W6.frozen? ⟨w.heap.size + 1, 1, none⟩ = false := Lib.frozen_of_heap B1 1
  obtain ⟨tn, etn⟩ : ∃ tn : ByteArray, tn = ⟨(decS (x / Nat.gcd x y)).toArray⟩ := ⟨_, rfl⟩
  obtain ⟨td, etd⟩ : ∃ td : ByteArray, td = ⟨(decS (y / Nat.gcd x y)).toArray⟩ := ⟨_, rfl⟩
  rw [← etn, ← etd]
  have HSN := Lib.hid (show tn.size = (decS (x / Nat.gcd x y)).length by rw [etn]; rfl)
  have HSD := Lib.hid (show td.size = (denT x y).length by rw [etd]; rfl)
  have HTN := Lib.hid etn
  have HTD := Lib.hid etd
  clear etn etd
  by_cases h1 : 2000 < tn.size
  · have HE := Lib.hid (show ratioE neg x y = _ from if_pos (.inl (by rw [← HSN.out]; exact h1)))
    go_wp2
    obtain ⟨W7, hW7⟩ : ∃ W7, W7 = (W6.setCell ⟨w.heap.size + 1, 0, none⟩ (.string ⟨#[]⟩)).setCell ⟨w.heap.size + 1, 1, none⟩ (.string ⟨#[]⟩) := ⟨_, rfl⟩
    have B7 : W7.heap[w.heap.size + 1]? = some (.cells #[.string ⟨#[]⟩, .string ⟨#[]⟩] 47 (0, 0)) := hW7 ▸ blk2_set1 (blk2_set0 B1)
    have hbw7 : Below w.heap.size w W7 := by
      rw [hW7]
      exact (hbw6.setCell (p := ⟨w.heap.size + 1, 0, none⟩) (Nat.le_succ _) _).setCell (p := ⟨w.heap.size + 1, 1, none⟩) (Nat.le_succ _) _
    rw [← hW7]
    clear hW7
    have q0 : W7.cell? ⟨w.heap.size + 1, 0, none⟩ = some (.string ⟨#[]⟩) := by rw [Lib.cell_of_heap B7]; rfl
    have q1 : W7.cell? ⟨w.heap.size + 1, 1, none⟩ = some (.string ⟨#[]⟩) := by rw [Lib.cell_of_heap B7]; rfl
    refine bodyPost_ret (v := .tuple #[.agg #[.string ⟨#[]⟩, .string ⟨#[]⟩], .int .i64 2]) (by simp [results, Tryz.results33, go_sem, q0, q1]) rfl ⟨ret_val (by rw [HE.out]), hbw7⟩
  by_cases h2 : 2000 < td.size
  · have HE := Lib.hid (show ratioE neg x y = _ from if_pos (.inr (by rw [← HSD.out]; exact h2)))
    go_wp2
    obtain ⟨W7, hW7⟩ : ∃ W7, W7 = (W6.setCell ⟨w.heap.size + 1, 0, none⟩ (.string ⟨#[]⟩)).setCell ⟨w.heap.size + 1, 1, none⟩ (.string ⟨#[]⟩) := ⟨_, rfl⟩
    have B7 : W7.heap[w.heap.size + 1]? = some (.cells #[.string ⟨#[]⟩, .string ⟨#[]⟩] 47 (0, 0)) := hW7 ▸ blk2_set1 (blk2_set0 B1)
    have hbw7 : Below w.heap.size w W7 := by
      rw [hW7]
      exact (hbw6.setCell (p := ⟨w.heap.size + 1, 0, none⟩) (Nat.le_succ _) _).setCell (p := ⟨w.heap.size + 1, 1, none⟩) (Nat.le_succ _) _
    rw [← hW7]
    clear hW7
    have q0 : W7.cell? ⟨w.heap.size + 1, 0, none⟩ = some (.string ⟨#[]⟩) := by rw [Lib.cell_of_heap B7]; rfl
    have q1 : W7.cell? ⟨w.heap.size + 1, 1, none⟩ = some (.string ⟨#[]⟩) := by rw [Lib.cell_of_heap B7]; rfl
    refine bodyPost_ret (v := .tuple #[.agg #[.string ⟨#[]⟩, .string ⟨#[]⟩], .int .i64 2]) (by simp [results, Tryz.results33, go_sem, q0, q1]) rfl ⟨ret_val (by rw [HE.out]), hbw7⟩
  have HE := Lib.hid (show ratioE neg x y = _ from if_neg (by unfold bigT; rw [← HSN.out, ← HSD.out]; omega))
  cases ng
  · go_wp2
    obtain ⟨W7, hW7⟩ : ∃ W7, W7 = (W6.setCell ⟨w.heap.size + 1, 0, none⟩ (.string tn)).setCell ⟨w.heap.size + 1, 1, none⟩ (.string td) := ⟨_, rfl⟩
    have B7 : W7.heap[w.heap.size + 1]? = some (.cells #[.string tn, .string td] 47 (0, 0)) := hW7 ▸ blk2_set1 (blk2_set0 B1)
    have hbw7 : Below w.heap.size w W7 := by
      rw [hW7]
      exact (hbw6.setCell (p := ⟨w.heap.size + 1, 0, none⟩) (Nat.le_succ _) _).setCell (p := ⟨w.heap.size + 1, 1, none⟩) (Nat.le_succ _) _
    rw [← hW7]
    clear hW7
    have q0 : W7.cell? ⟨w.heap.size + 1, 0, none⟩ = some (.string tn) := by rw [Lib.cell_of_heap B7]; rfl
    have q1 : W7.cell? ⟨w.heap.size + 1, 1, none⟩ = some (.string td) := by rw [Lib.cell_of_heap B7]; rfl
    refine bodyPost_ret (v := .tuple #[.agg #[.string tn, .string td], .int .i64 0]) (by simp [results, Tryz.results33, go_sem, q0, q1]) rfl ⟨ret_val (by rw [HE.out, numTR9, HNG.out, HTN.out, HTD.out]; rfl), hbw7⟩
  · have HCAT := Lib.hid (show ((⟨#[45]⟩ : ByteArray) ++ tn) = ⟨(numTR9 neg x y).toArray⟩ from ba_ofR9 (by rw [ByteArray.data_append, Array.toList_append, HTN.out, numTR9, HNG.out]; rfl))
    go_wp2
    obtain ⟨W7, hW7⟩ : ∃ W7, W7 = (W6.setCell ⟨w.heap.size + 1, 0, none⟩ (.string (⟨#[45]⟩ ++ tn))).setCell ⟨w.heap.size + 1, 1, none⟩ (.string td) := ⟨_, rfl⟩
    have B7 : W7.heap[w.heap.size + 1]? = some (.cells #[.string (⟨#[45]⟩ ++ tn), .string td] 47 (0, 0)) := hW7 ▸ blk2_set1 (blk2_set0 B1)
    have hbw7 : Below w.heap.size w W7 := by
      rw [hW7]
      exact (hbw6.setCell (p := ⟨w.heap.size + 1, 0, none⟩) (Nat.le_succ _) _).setCell (p := ⟨w.heap.size + 1, 1, none⟩) (Nat.le_succ _) _
    rw [← hW7]
    clear hW7
    have q0 : W7.cell? ⟨w.heap.size + 1, 0, none⟩ = some (.string (⟨#[45]⟩ ++ tn)) := by rw [Lib.cell_of_heap B7]; rfl
    have q1 : W7.cell? ⟨w.heap.size + 1, 1, none⟩ = some (.string td) := by rw [Lib.cell_of_heap B7]; rfl
    refine bodyPost_ret (v := .tuple #[.agg #[.string (⟨#[45]⟩ ++ tn), .string td], .int .i64 0]) (by simp [results, Tryz.results33, go_sem, q0, q1]) rfl ⟨ret_val (by rw [HE.out, HCAT.out, HTD.out]; rfl), hbw7⟩
end Go.Proofs.YtpanbeoelbhhgaaGreatDoor
namespace Go.Proofs.YtpanbeoelbhhgaaGreatDoor
open Go.RowKit Limb Dig
set_option maxHeartbeats 4000000
set_option maxRecDepth 100000
theorem mag_1 (w : World) : Calls Tryz.prog 32 #[.int .i64 1] w fun e w' => e = .returned (.int .u64 1) ∧ w = w' := by
  go_enter Tryz.func32, Tryz.ntmps32
  go_wp2
  go_ret
  exact ⟨rfl, rfl⟩
theorem mag_2 (w : World) : Calls Tryz.prog 32 #[.int .i64 2] w fun e w' => e = .returned (.int .u64 2) ∧ w = w' := by
  go_enter Tryz.func32, Tryz.ntmps32
  go_wp2
  go_ret
  exact ⟨rfl, rfl⟩
theorem small_at (n : Nat) (w : World) (h : n ≤ 1000) :
    Calls Tryz.prog 31 #[.int .u64 (n : Nat)] w fun e w' => (∃ A m c, e = .returned (.slice A m c) ∧ Rep w' 3 (.slice A m c) n) ∧ Below w.heap.size w w' :=
  (small_any n w (by omega)).mono fun _ _ ⟨⟨v, he, hv⟩, hb⟩ => by
    obtain ⟨A, m, c, rfl, _⟩ := hv.form
    exact ⟨⟨A, m, c, he, hv⟩, hb⟩
theorem half_E : ratioE false 1 2 = .tuple #[.agg #[.string ⟨#[49]⟩, .string ⟨#[50]⟩], .int .i64 0] := by kernel_rfl
theorem ratioOf_half (w : World) (htab : TabR9 w) :
    Calls Tryz.prog 13 #[.int .i64 1, .int .i64 2] w fun e w' => e = .returned (.tuple #[.agg #[.string ⟨#[49]⟩, .string ⟨#[50]⟩], .int .i64 0]) ∧ Below w.heap.size w w' := by
  have HT := Lib.hid htab
  clear htab
  go_enter Tryz.func13, Tryz.ntmps13
  go_upto_region 3 with (fail)
  have B1 := Blk.new w 47 #[.string ⟨#[]⟩, .string ⟨#[]⟩]
  have hbw : Below w.heap.size w (w.alloc (.cells #[.string ⟨#[]⟩, .string ⟨#[]⟩] 47 (0, 0))) := (Below.refl _ w).alloc (Nat.le_refl _) _
  obtain ⟨W, hW⟩ : ∃ W, W = w.alloc (.cells #[.string ⟨#[]⟩, .string ⟨#[]⟩] 47 (0, 0)) := ⟨_, rfl⟩
  rw [← hW] at B1 hbw ⊢
  clear hW
  go_wp2_with fail
  refine (mag_1 _).mono ?_
  rintro e w1 ⟨rfl, rfl⟩
  go_wp2_with fail
  refine (small_at 1 _ (by decide)).mono ?_
  rintro e w1 ⟨⟨A1, m1, c1, rfl, hv1⟩, hb1⟩
  have HV1 := Lib.hid hv1
  have hbw := hbw.trans (hb1.mono hbw.size)
  have B1 := B1.below hb1 B1.lt
  clear hv1 hb1
  go_wp2_with fail
  refine (mag_2 _).mono ?_
  rintro e w2 ⟨rfl, rfl⟩
  go_wp2_with fail
  refine (small_at 2 _ (by decide)).mono ?_
  rintro e w2 ⟨⟨A2, m2, c2, rfl, hv2⟩, hb2⟩
  have HV1 := Lib.hid (HV1.out.below hb2)
  have HV2 := Lib.hid hv2
  have hbw := hbw.trans (hb2.mono hbw.size)
  have B1 := B1.below hb2 B1.lt
  clear hv2 hb2
  go_wp2_with fail
  refine (ratio_any w2 3 1 2 _ false ⟨⟨_, _, rfl, HV1.out, HV2.out, by decide⟩⟩ (by omega) (HT.out.below hbw)).mono ?_
  rintro e w6 ⟨he, hb6⟩
  rw [half_E] at he
  subst he
  have hbw := hbw.trans (hb6.mono hbw.size)
  have B1 := B1.below hb6 B1.lt
  have rc0 : w6.cell? ⟨w.heap.size, 0, none⟩ = some (.string ⟨#[]⟩) := B1.cell 0
  have rz0 : w6.frozen? ⟨w.heap.size, 0, none⟩ = false := B1.frozen 0
  have rc1 : w6.cell? ⟨w.heap.size, 1, none⟩ = some (.string ⟨#[]⟩) := B1.cell 1
  have rz1 : w6.frozen? ⟨w.heap.size, 1, none⟩ = false := B1.frozen 1
  go_wp2
  obtain ⟨W9, hW9⟩ : ∃ W9, W9 = (w6.setCell ⟨w.heap.size, 0, none⟩ (.string ⟨#[49]⟩)).setCell ⟨w.heap.size, 1, none⟩ (.string ⟨#[50]⟩) := ⟨_, rfl⟩
  have B9 : Blk W9 (w.heap.size) 47 #[.string ⟨#[49]⟩, .string ⟨#[50]⟩] := hW9 ▸ (B1.set_ 0 _).set_ 1 _
  have hbw9 : Below w.heap.size w W9 := hW9 ▸ (hbw.setCell (p := ⟨w.heap.size, 0, none⟩) (Nat.le_refl _) _).setCell (p := ⟨w.heap.size, 1, none⟩) (Nat.le_refl _) _
  rw [← hW9]
  clear hW9
  have qc0 : W9.cell? ⟨w.heap.size, 0, none⟩ = some (.string ⟨#[49]⟩) := B9.cell 0
  have qc1 : W9.cell? ⟨w.heap.size, 1, none⟩ = some (.string ⟨#[50]⟩) := B9.cell 1
  exact bodyPost_ret (v := .tuple #[.agg #[.string ⟨#[49]⟩, .string ⟨#[50]⟩], .int .i64 0]) (by simp [results, Tryz.results13, go_sem, qc0, qc1]) rfl ⟨rfl, hbw9⟩
theorem awake_any (w : World) (htab : TabR9 w) :
    Calls Tryz.prog 6 #[] w fun e w' => e = .returned (.bool true) ∧ Below w.heap.size w w' := by
  have HR := Lib.hid (ratioOf_half w htab)
  clear htab
  go_enter Tryz.func6, Tryz.ntmps6
  go_wp2_with (go_at_call 13; (with_reducible refine HR.out.mono ?_); rintro e w2 ⟨rfl, hb2⟩)
  go_ret
  exact ⟨rfl, hb2.alloc hb2.size _⟩
end Go.Proofs.YtpanbeoelbhhgaaGreatDoor
