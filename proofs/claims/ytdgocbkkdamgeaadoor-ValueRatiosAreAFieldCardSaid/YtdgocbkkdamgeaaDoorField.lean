/- The walk of the law 'ValueRatiosAreAField': it returns true at every three ratios' texts. -/
import Derived.Test.YtdgocbkkdamgeaaDoorFld
namespace Go.Proofs.YtdgocbkkdamgeaaDoor
open Go.RowKit Limb Dig Rtx

def smallR (a : R) : Prop := a.n.length ≤ 2001 ∧ a.d.length ≤ 2001
theorem small_no : smallR noR := ⟨by decide, by decide⟩
theorem small_out (r : Rat) : smallR (outR r).1 := by
  unfold outR
  split
  · exact small_no
  · rename_i h
    have h1 : ¬ 2000 < (decS r.num.natAbs).length := fun h' => h (.inl h')
    have h2 : ¬ 2000 < (denS r).length := fun h' => h (.inr h')
    refine ⟨?_, by show (denS r).length ≤ 2001; omega⟩
    show (numS r).length ≤ 2001
    unfold numS
    rw [List.length_append]
    split <;> simp <;> omega
theorem small_sum (a b : R) : smallR (sumR a b).1 := by
  unfold sumR
  split
  · exact small_no
  · split
    · exact small_no
    · exact small_out _
theorem small_prod (a b : R) : smallR (prodR a b).1 := by
  unfold prodR
  split
  · exact small_no
  · split
    · exact small_no
    · exact small_out _
theorem small_inv (a : R) : smallR (invR a).1 := by
  unfold invR
  split
  · exact small_no
  · split
    · exact small_no
    · exact small_out _
theorem small_both {f : R → R → R × Nat} (h : ∀ a b, smallR (f a b).1) (a b : R) (x y : Bool) : smallR (bothR f a x b y).1 := by
  unfold bothR
  split
  · exact h a b
  · exact small_no
theorem size_of_small {S1 S2 : ByteArray} (h : smallR (rx S1 S2)) : S1.size ≤ maxLen ∧ S2.size ≤ maxLen := by
  have h1 : S1.size ≤ 2001 := h.1
  have h2 : S2.size ≤ 2001 := h.2
  unfold maxLen
  omega
theorem rx_inj {a b c d : ByteArray} (h : rx a b = rx c d) : a = c ∧ b = d := by
  injection h with h1 h2
  exact ⟨(ba_of h1).trans (ba_of rfl).symm, (ba_of h2).trans (ba_of rfl).symm⟩
set_option maxHeartbeats 8000000 in
set_option maxRecDepth 100000 in
theorem field_any (na da nb db nc dc : ByteArray) (w : World) (h1 : na.size ≤ maxLen) (h2 : da.size ≤ maxLen) (h3 : nb.size ≤ maxLen) (h4 : db.size ≤ maxLen) (h5 : nc.size ≤ maxLen) (h6 : dc.size ≤ maxLen) (htab : Tab w) :
    Calls Tryd.prog 3 #[.agg #[.string na, .string da], .agg #[.string nb, .string db], .agg #[.string nc, .string dc]] w fun e w' => e = .returned (.bool true) ∧ Below w.heap.size w w' := by
  have HT := Lib.hid htab
  clear htab
  go_enter Tryd.func3, Tryd.ntmps3
  go_upto_region 1 with (fail)
  obtain ⟨W0, hW⟩ : ∃ W, W = (((w.alloc (.cells #[.string na, .string da] 23 (0, 0))).alloc (.cells #[.string nb, .string db] 23 (0, 0))).alloc (.cells #[.string nc, .string dc] 23 (0, 0))) := ⟨_, rfl⟩
  have hbw : Below w.heap.size w W0 := by rw [hW]; exact ((((Below.refl _ w).alloc (Nat.le_refl _) _).alloc (by simp) _).alloc (by simp; omega) _)
  have Ba : Blk W0 (w.heap.size) 23 #[.string na, .string da] := by
    rw [hW]
    have := Blk.new w 23 #[.string na, .string da]
    have := this.alloc (.cells #[.string nb, .string db] 23 (0, 0))
    have := this.alloc (.cells #[.string nc, .string dc] 23 (0, 0))
    exact this
  have Bb : Blk W0 (w.heap.size + 1) 23 #[.string nb, .string db] := by
    rw [hW]
    have := Blk.new (w.alloc (.cells #[.string na, .string da] 23 (0, 0))) 23 #[.string nb, .string db]
    have := this.alloc (.cells #[.string nc, .string dc] 23 (0, 0))
    rwa [World.size_alloc] at this
  have Bc : Blk W0 (w.heap.size + 2) 23 #[.string nc, .string dc] := by
    rw [hW]
    have := Blk.new ((w.alloc (.cells #[.string na, .string da] 23 (0, 0))).alloc (.cells #[.string nb, .string db] 23 (0, 0))) 23 #[.string nc, .string dc]
    rwa [World.size_alloc, World.size_alloc] at this
  have hsz : W0.heap.size = w.heap.size + 3 := by rw [hW]; simp
  rw [← hW]
  clear hW
  have HSZ := Lib.hid hsz
  clear hsz
  have ca0 : W0.cell? ⟨w.heap.size, 0, none⟩ = some (.string na) := Ba.cell 0
  have ca1 : W0.cell? ⟨w.heap.size, 1, none⟩ = some (.string da) := Ba.cell 1
  have cb0 : W0.cell? ⟨w.heap.size + 1, 0, none⟩ = some (.string nb) := Bb.cell 0
  have cb1 : W0.cell? ⟨w.heap.size + 1, 1, none⟩ = some (.string db) := Bb.cell 1
  go_wp2_with fail
  refine (sum_any na da nb db W0 h1 h2 h3 h4 (HT.out.below hbw)).mono ?_
  obtain ⟨S1, S2, x, hq, hv⟩ := okV_form (okR (sumR (rx na da) (rx nb db)))
  have QS1 := Lib.hid hq
  have NS1 := Lib.hid (size_of_small (by have e := congrArg Prod.fst hq; have h : smallR (okR (sumR (rx na da) (rx nb db))).1 := small_sum (rx na da) (rx nb db); rw [e] at h; exact h))
  rw [hv]
  clear hq hv
  rintro e w1 ⟨rfl, hb⟩
  clear ca0 ca1 cb0 cb1
  have Ba := Ba.below hb Ba.lt
  have Bb := Bb.below hb Bb.lt
  have Bc := Bc.below hb Bc.lt
  have hbw := hbw.trans (hb.mono hbw.size)
  clear hb
  go_upto_region 2 with (fail)
  obtain ⟨W1, hW⟩ : ∃ W', W' = w1.alloc (.cells #[.string S1, .string S2] 23 (0, 0)) := ⟨_, rfl⟩
  have Haab := Lib.hid (show w.heap.size < w1.heap.size from Ba.lt)
  have Hbab := Lib.hid (show w.heap.size + 1 < w1.heap.size from Bb.lt)
  have Hcab := Lib.hid (show w.heap.size + 2 < w1.heap.size from Bc.lt)
  have Ba : Blk W1 (w.heap.size) 23 #[.string na, .string da] := hW ▸ Ba.alloc _
  have Bb : Blk W1 (w.heap.size + 1) 23 #[.string nb, .string db] := hW ▸ Bb.alloc _
  have Bc : Blk W1 (w.heap.size + 2) 23 #[.string nc, .string dc] := hW ▸ Bc.alloc _
  have Bab : Blk W1 w1.heap.size 23 #[.string S1, .string S2] := hW ▸ Blk.new _ _ _
  have hgeab := Lib.hid hbw.size
  have hbw : Below w.heap.size w W1 := hW ▸ hbw.alloc hbw.size _
  rw [← hW]
  clear hW
  have ca0 : W1.cell? ⟨w.heap.size, 0, none⟩ = some (.string na) := Ba.cell 0
  have ca1 : W1.cell? ⟨w.heap.size, 1, none⟩ = some (.string da) := Ba.cell 1
  have cb0 : W1.cell? ⟨w.heap.size + 1, 0, none⟩ = some (.string nb) := Bb.cell 0
  have cb1 : W1.cell? ⟨w.heap.size + 1, 1, none⟩ = some (.string db) := Bb.cell 1
  go_wp2_with fail
  refine (sum_any nb db na da W1 h3 h4 h1 h2 (HT.out.below hbw)).mono ?_
  rw [← sum_comm (rx na da) (rx nb db), QS1.out, okV_rx]
  rintro e w2 ⟨rfl, hb⟩
  clear ca0 ca1 cb0 cb1
  have Ba := Ba.below hb Ba.lt
  have Bb := Bb.below hb Bb.lt
  have Bc := Bc.below hb Bc.lt
  have Bab := Bab.below hb Bab.lt
  have hbw := hbw.trans (hb.mono hbw.size)
  clear hb
  go_upto_region 3 with (fail)
  obtain ⟨W2, hW⟩ : ∃ W', W' = w2.alloc (.cells #[.string S1, .string S2] 23 (0, 0)) := ⟨_, rfl⟩
  have Haba := Lib.hid (show w.heap.size < w2.heap.size from Ba.lt)
  have Hbba := Lib.hid (show w.heap.size + 1 < w2.heap.size from Bb.lt)
  have Hcba := Lib.hid (show w.heap.size + 2 < w2.heap.size from Bc.lt)
  have Habba := Lib.hid (show w1.heap.size < w2.heap.size from Bab.lt)
  have Ba : Blk W2 (w.heap.size) 23 #[.string na, .string da] := hW ▸ Ba.alloc _
  have Bb : Blk W2 (w.heap.size + 1) 23 #[.string nb, .string db] := hW ▸ Bb.alloc _
  have Bc : Blk W2 (w.heap.size + 2) 23 #[.string nc, .string dc] := hW ▸ Bc.alloc _
  have Bab : Blk W2 (w1.heap.size) 23 #[.string S1, .string S2] := hW ▸ Bab.alloc _
  have Bba : Blk W2 w2.heap.size 23 #[.string S1, .string S2] := hW ▸ Blk.new _ _ _
  have hgeba := Lib.hid hbw.size
  have hbw : Below w.heap.size w W2 := hW ▸ hbw.alloc hbw.size _
  rw [← hW]
  clear hW
  have cb0 : W2.cell? ⟨w.heap.size + 1, 0, none⟩ = some (.string nb) := Bb.cell 0
  have cb1 : W2.cell? ⟨w.heap.size + 1, 1, none⟩ = some (.string db) := Bb.cell 1
  have cc0 : W2.cell? ⟨w.heap.size + 2, 0, none⟩ = some (.string nc) := Bc.cell 0
  have cc1 : W2.cell? ⟨w.heap.size + 2, 1, none⟩ = some (.string dc) := Bc.cell 1
  go_wp2_with fail
  refine (sum_any nb db nc dc W2 h3 h4 h5 h6 (HT.out.below hbw)).mono ?_
  obtain ⟨T1, T2, z, hq, hv⟩ := okV_form (okR (sumR (rx nb db) (rx nc dc)))
  have QT1 := Lib.hid hq
  have NT1 := Lib.hid (size_of_small (by have e := congrArg Prod.fst hq; have h : smallR (okR (sumR (rx nb db) (rx nc dc))).1 := small_sum (rx nb db) (rx nc dc); rw [e] at h; exact h))
  rw [hv]
  clear hq hv
  rintro e w3 ⟨rfl, hb⟩
  clear cb0 cb1 cc0 cc1
  have Ba := Ba.below hb Ba.lt
  have Bb := Bb.below hb Bb.lt
  have Bc := Bc.below hb Bc.lt
  have Bab := Bab.below hb Bab.lt
  have Bba := Bba.below hb Bba.lt
  have hbw := hbw.trans (hb.mono hbw.size)
  clear hb
  go_upto_region 4 with (fail)
  obtain ⟨W3, hW⟩ : ∃ W', W' = w3.alloc (.cells #[.string T1, .string T2] 23 (0, 0)) := ⟨_, rfl⟩
  have Habc := Lib.hid (show w.heap.size < w3.heap.size from Ba.lt)
  have Hbbc := Lib.hid (show w.heap.size + 1 < w3.heap.size from Bb.lt)
  have Hcbc := Lib.hid (show w.heap.size + 2 < w3.heap.size from Bc.lt)
  have Habbc := Lib.hid (show w1.heap.size < w3.heap.size from Bab.lt)
  have Hbabc := Lib.hid (show w2.heap.size < w3.heap.size from Bba.lt)
  have Ba : Blk W3 (w.heap.size) 23 #[.string na, .string da] := hW ▸ Ba.alloc _
  have Bb : Blk W3 (w.heap.size + 1) 23 #[.string nb, .string db] := hW ▸ Bb.alloc _
  have Bc : Blk W3 (w.heap.size + 2) 23 #[.string nc, .string dc] := hW ▸ Bc.alloc _
  have Bab : Blk W3 (w1.heap.size) 23 #[.string S1, .string S2] := hW ▸ Bab.alloc _
  have Bba : Blk W3 (w2.heap.size) 23 #[.string S1, .string S2] := hW ▸ Bba.alloc _
  have Bbc : Blk W3 w3.heap.size 23 #[.string T1, .string T2] := hW ▸ Blk.new _ _ _
  have hgebc := Lib.hid hbw.size
  have hbw : Below w.heap.size w W3 := hW ▸ hbw.alloc hbw.size _
  rw [← hW]
  clear hW
  have cab0 : W3.cell? ⟨w1.heap.size, 0, none⟩ = some (.string S1) := Bab.cell 0
  have cab1 : W3.cell? ⟨w1.heap.size, 1, none⟩ = some (.string S2) := Bab.cell 1
  have cba0 : W3.cell? ⟨w2.heap.size, 0, none⟩ = some (.string S1) := Bba.cell 0
  have cba1 : W3.cell? ⟨w2.heap.size, 1, none⟩ = some (.string S2) := Bba.cell 1
  have hxx : (x != x) = false := by simp
  go_upto_region 6 with (fail)
  clear cab0 cab1 cba0 cba1
  clear hxx
  have cab0 : W3.cell? ⟨w1.heap.size, 0, none⟩ = some (.string S1) := Bab.cell 0
  have cab1 : W3.cell? ⟨w1.heap.size, 1, none⟩ = some (.string S2) := Bab.cell 1
  have cc0 : W3.cell? ⟨w.heap.size + 2, 0, none⟩ = some (.string nc) := Bc.cell 0
  have cc1 : W3.cell? ⟨w.heap.size + 2, 1, none⟩ = some (.string dc) := Bc.cell 1
  go_wp2_with fail
  refine (both_sum S1 S2 nc dc x true W3 NS1.out.1 NS1.out.2 h5 h6 (HT.out.below hbw)).mono ?_
  obtain ⟨L1, L2, p, hq, hv⟩ := okV_form (bothR sumR (rx S1 S2) x (rx nc dc) true)
  have QL1 := Lib.hid hq
  have NL1 := Lib.hid (size_of_small (by have e := congrArg Prod.fst hq; have h : smallR (bothR sumR (rx S1 S2) x (rx nc dc) true).1 := small_both small_sum _ _ _ _; rw [e] at h; exact h))
  rw [hv]
  clear hq hv
  rintro e w4 ⟨rfl, hb⟩
  clear cab0 cab1 cc0 cc1
  have Ba := Ba.below hb Ba.lt
  have Bb := Bb.below hb Bb.lt
  have Bc := Bc.below hb Bc.lt
  have Bab := Bab.below hb Bab.lt
  have Bba := Bba.below hb Bba.lt
  have Bbc := Bbc.below hb Bbc.lt
  have hbw := hbw.trans (hb.mono hbw.size)
  clear hb
  go_upto_region 7 with (fail)
  obtain ⟨W4, hW⟩ : ∃ W', W' = w4.alloc (.cells #[.string L1, .string L2] 23 (0, 0)) := ⟨_, rfl⟩
  have Hal := Lib.hid (show w.heap.size < w4.heap.size from Ba.lt)
  have Hbl := Lib.hid (show w.heap.size + 1 < w4.heap.size from Bb.lt)
  have Hcl := Lib.hid (show w.heap.size + 2 < w4.heap.size from Bc.lt)
  have Habl := Lib.hid (show w1.heap.size < w4.heap.size from Bab.lt)
  have Hbal := Lib.hid (show w2.heap.size < w4.heap.size from Bba.lt)
  have Hbcl := Lib.hid (show w3.heap.size < w4.heap.size from Bbc.lt)
  have Ba : Blk W4 (w.heap.size) 23 #[.string na, .string da] := hW ▸ Ba.alloc _
  have Bb : Blk W4 (w.heap.size + 1) 23 #[.string nb, .string db] := hW ▸ Bb.alloc _
  have Bc : Blk W4 (w.heap.size + 2) 23 #[.string nc, .string dc] := hW ▸ Bc.alloc _
  have Bab : Blk W4 (w1.heap.size) 23 #[.string S1, .string S2] := hW ▸ Bab.alloc _
  have Bba : Blk W4 (w2.heap.size) 23 #[.string S1, .string S2] := hW ▸ Bba.alloc _
  have Bbc : Blk W4 (w3.heap.size) 23 #[.string T1, .string T2] := hW ▸ Bbc.alloc _
  have Bl : Blk W4 w4.heap.size 23 #[.string L1, .string L2] := hW ▸ Blk.new _ _ _
  have hgel := Lib.hid hbw.size
  have hbw : Below w.heap.size w W4 := hW ▸ hbw.alloc hbw.size _
  rw [← hW]
  clear hW
  have ca0 : W4.cell? ⟨w.heap.size, 0, none⟩ = some (.string na) := Ba.cell 0
  have ca1 : W4.cell? ⟨w.heap.size, 1, none⟩ = some (.string da) := Ba.cell 1
  have cbc0 : W4.cell? ⟨w3.heap.size, 0, none⟩ = some (.string T1) := Bbc.cell 0
  have cbc1 : W4.cell? ⟨w3.heap.size, 1, none⟩ = some (.string T2) := Bbc.cell 1
  go_wp2_with fail
  refine (both_sum na da T1 T2 true z W4 h1 h2 NT1.out.1 NT1.out.2 (HT.out.below hbw)).mono ?_
  obtain ⟨R1, R2, q, hq, hv⟩ := okV_form (bothR sumR (rx na da) true (rx T1 T2) z)
  have QR1 := Lib.hid hq
  have NR1 := Lib.hid (size_of_small (by have e := congrArg Prod.fst hq; have h : smallR (bothR sumR (rx na da) true (rx T1 T2) z).1 := small_both small_sum _ _ _ _; rw [e] at h; exact h))
  rw [hv]
  clear hq hv
  rintro e w5 ⟨rfl, hb⟩
  clear ca0 ca1 cbc0 cbc1
  have Ba := Ba.below hb Ba.lt
  have Bb := Bb.below hb Bb.lt
  have Bc := Bc.below hb Bc.lt
  have Bab := Bab.below hb Bab.lt
  have Bba := Bba.below hb Bba.lt
  have Bbc := Bbc.below hb Bbc.lt
  have Bl := Bl.below hb Bl.lt
  have hbw := hbw.trans (hb.mono hbw.size)
  clear hb
  go_upto_region 8 with (fail)
  obtain ⟨W5, hW⟩ : ∃ W', W' = w5.alloc (.cells #[.string R1, .string R2] 23 (0, 0)) := ⟨_, rfl⟩
  have Har := Lib.hid (show w.heap.size < w5.heap.size from Ba.lt)
  have Hbr := Lib.hid (show w.heap.size + 1 < w5.heap.size from Bb.lt)
  have Hcr := Lib.hid (show w.heap.size + 2 < w5.heap.size from Bc.lt)
  have Habr := Lib.hid (show w1.heap.size < w5.heap.size from Bab.lt)
  have Hbar := Lib.hid (show w2.heap.size < w5.heap.size from Bba.lt)
  have Hbcr := Lib.hid (show w3.heap.size < w5.heap.size from Bbc.lt)
  have Hlr := Lib.hid (show w4.heap.size < w5.heap.size from Bl.lt)
  have Ba : Blk W5 (w.heap.size) 23 #[.string na, .string da] := hW ▸ Ba.alloc _
  have Bb : Blk W5 (w.heap.size + 1) 23 #[.string nb, .string db] := hW ▸ Bb.alloc _
  have Bc : Blk W5 (w.heap.size + 2) 23 #[.string nc, .string dc] := hW ▸ Bc.alloc _
  have Bab : Blk W5 (w1.heap.size) 23 #[.string S1, .string S2] := hW ▸ Bab.alloc _
  have Bba : Blk W5 (w2.heap.size) 23 #[.string S1, .string S2] := hW ▸ Bba.alloc _
  have Bbc : Blk W5 (w3.heap.size) 23 #[.string T1, .string T2] := hW ▸ Bbc.alloc _
  have Bl : Blk W5 (w4.heap.size) 23 #[.string L1, .string L2] := hW ▸ Bl.alloc _
  have Br : Blk W5 w5.heap.size 23 #[.string R1, .string R2] := hW ▸ Blk.new _ _ _
  have hger := Lib.hid hbw.size
  have hbw : Below w.heap.size w W5 := hW ▸ hbw.alloc hbw.size _
  rw [← hW]
  clear hW
  have HAG := Lib.hid (show p = true → q = true → L1 = R1 ∧ L2 = R2 from fun hp hq => rx_inj (sum_assoc QS1.out QT1.out (hp ▸ QL1.out) (hq ▸ QR1.out)))
  have cl0 : W5.cell? ⟨w4.heap.size, 0, none⟩ = some (.string L1) := Bl.cell 0
  have cl1 : W5.cell? ⟨w4.heap.size, 1, none⟩ = some (.string L2) := Bl.cell 1
  have cr0 : W5.cell? ⟨w5.heap.size, 0, none⟩ = some (.string R1) := Br.cell 0
  have cr1 : W5.cell? ⟨w5.heap.size, 1, none⟩ = some (.string R2) := Br.cell 1
  go_wp2_with fail
  refine (agree_any L1 L2 R1 R2 p q W5 HAG.out).mono ?_

  rintro e w6 ⟨rfl, hb⟩
  clear cl0 cl1 cr0 cr1
  have Ba := Ba.below hb Ba.lt
  have Bb := Bb.below hb Bb.lt
  have Bc := Bc.below hb Bc.lt
  have Bab := Bab.below hb Bab.lt
  have Bba := Bba.below hb Bba.lt
  have Bbc := Bbc.below hb Bbc.lt
  have Bl := Bl.below hb Bl.lt
  have Br := Br.below hb Br.lt
  have hbw := hbw.trans (hb.mono hbw.size)
  clear hb
  go_upto_region 10 with (fail)
  have ca0 : w6.cell? ⟨w.heap.size, 0, none⟩ = some (.string na) := Ba.cell 0
  have ca1 : w6.cell? ⟨w.heap.size, 1, none⟩ = some (.string da) := Ba.cell 1
  have cbc0 : w6.cell? ⟨w3.heap.size, 0, none⟩ = some (.string T1) := Bbc.cell 0
  have cbc1 : w6.cell? ⟨w3.heap.size, 1, none⟩ = some (.string T2) := Bbc.cell 1
  go_wp2_with fail
  refine (both_prod na da T1 T2 true z w6 h1 h2 NT1.out.1 NT1.out.2 (HT.out.below hbw)).mono ?_
  obtain ⟨P1, P2, p2, hq, hv⟩ := okV_form (bothR prodR (rx na da) true (rx T1 T2) z)
  have QP1 := Lib.hid hq
  have NP1 := Lib.hid (size_of_small (by have e := congrArg Prod.fst hq; have h : smallR (bothR prodR (rx na da) true (rx T1 T2) z).1 := small_both small_prod _ _ _ _; rw [e] at h; exact h))
  rw [hv]
  clear hq hv
  rintro e w7 ⟨rfl, hb⟩
  clear ca0 ca1 cbc0 cbc1
  have Ba := Ba.below hb Ba.lt
  have Bb := Bb.below hb Bb.lt
  have Bc := Bc.below hb Bc.lt
  have Bab := Bab.below hb Bab.lt
  have Bba := Bba.below hb Bba.lt
  have Bbc := Bbc.below hb Bbc.lt
  have Bl := Bl.below hb Bl.lt
  have Br := Br.below hb Br.lt
  have hbw := hbw.trans (hb.mono hbw.size)
  clear hb
  have cl0 : w7.cell? ⟨w4.heap.size, 0, none⟩ = some (.string L1) := Bl.cell 0
  have cl1 : w7.cell? ⟨w4.heap.size, 1, none⟩ = some (.string L2) := Bl.cell 1
  have zl0 : w7.frozen? ⟨w4.heap.size, 0, none⟩ = false := Bl.frozen 0
  have zl1 : w7.frozen? ⟨w4.heap.size, 1, none⟩ = false := Bl.frozen 1
  go_upto_region 11 with (fail)
  obtain ⟨W7, hW⟩ : ∃ W', W' = (w7.setCell ⟨w4.heap.size, 0, none⟩ (.string P1)).setCell ⟨w4.heap.size, 1, none⟩ (.string P2) := ⟨_, rfl⟩
  have Ba : Blk W7 (w.heap.size) 23 #[.string na, .string da] := hW ▸ Ba.far2 (Nat.ne_of_lt Hal.out) _ _
  have Bb : Blk W7 (w.heap.size + 1) 23 #[.string nb, .string db] := hW ▸ Bb.far2 (Nat.ne_of_lt Hbl.out) _ _
  have Bc : Blk W7 (w.heap.size + 2) 23 #[.string nc, .string dc] := hW ▸ Bc.far2 (Nat.ne_of_lt Hcl.out) _ _
  have Bab : Blk W7 (w1.heap.size) 23 #[.string S1, .string S2] := hW ▸ Bab.far2 (Nat.ne_of_lt Habl.out) _ _
  have Bba : Blk W7 (w2.heap.size) 23 #[.string S1, .string S2] := hW ▸ Bba.far2 (Nat.ne_of_lt Hbal.out) _ _
  have Bbc : Blk W7 (w3.heap.size) 23 #[.string T1, .string T2] := hW ▸ Bbc.far2 (Nat.ne_of_lt Hbcl.out) _ _
  have Bl : Blk W7 (w4.heap.size) 23 #[.string P1, .string P2] := hW ▸ Bl.store2 _ _
  have Br : Blk W7 (w5.heap.size) 23 #[.string R1, .string R2] := hW ▸ Br.far2 (Nat.ne_of_gt Hlr.out) _ _
  have hbw : Below w.heap.size w W7 := hW ▸ hbw.store2 hgel.out _ _
  rw [← hW]
  clear hW
  clear cl0 cl1 zl0 zl1
  have ca0 : W7.cell? ⟨w.heap.size, 0, none⟩ = some (.string na) := Ba.cell 0
  have ca1 : W7.cell? ⟨w.heap.size, 1, none⟩ = some (.string da) := Ba.cell 1
  have cb0 : W7.cell? ⟨w.heap.size + 1, 0, none⟩ = some (.string nb) := Bb.cell 0
  have cb1 : W7.cell? ⟨w.heap.size + 1, 1, none⟩ = some (.string db) := Bb.cell 1
  go_wp2_with fail
  refine (prod_any na da nb db W7 h1 h2 h3 h4 (HT.out.below hbw)).mono ?_
  obtain ⟨U1, U2, v, hq, hv⟩ := okV_form (okR (prodR (rx na da) (rx nb db)))
  have QU1 := Lib.hid hq
  have NU1 := Lib.hid (size_of_small (by have e := congrArg Prod.fst hq; have h : smallR (okR (prodR (rx na da) (rx nb db))).1 := small_prod (rx na da) (rx nb db); rw [e] at h; exact h))
  rw [hv]
  clear hq hv
  rintro e w8 ⟨rfl, hb⟩
  clear ca0 ca1 cb0 cb1
  have Ba := Ba.below hb Ba.lt
  have Bb := Bb.below hb Bb.lt
  have Bc := Bc.below hb Bc.lt
  have Bab := Bab.below hb Bab.lt
  have Bba := Bba.below hb Bba.lt
  have Bbc := Bbc.below hb Bbc.lt
  have Bl := Bl.below hb Bl.lt
  have Br := Br.below hb Br.lt
  have hbw := hbw.trans (hb.mono hbw.size)
  clear hb
  go_upto_region 12 with (fail)
  obtain ⟨W8, hW⟩ : ∃ W', W' = w8.alloc (.cells #[.string U1, .string U2] 23 (0, 0)) := ⟨_, rfl⟩
  have Hau := Lib.hid (show w.heap.size < w8.heap.size from Ba.lt)
  have Hbu := Lib.hid (show w.heap.size + 1 < w8.heap.size from Bb.lt)
  have Hcu := Lib.hid (show w.heap.size + 2 < w8.heap.size from Bc.lt)
  have Habu := Lib.hid (show w1.heap.size < w8.heap.size from Bab.lt)
  have Hbau := Lib.hid (show w2.heap.size < w8.heap.size from Bba.lt)
  have Hbcu := Lib.hid (show w3.heap.size < w8.heap.size from Bbc.lt)
  have Hlu := Lib.hid (show w4.heap.size < w8.heap.size from Bl.lt)
  have Hru := Lib.hid (show w5.heap.size < w8.heap.size from Br.lt)
  have Ba : Blk W8 (w.heap.size) 23 #[.string na, .string da] := hW ▸ Ba.alloc _
  have Bb : Blk W8 (w.heap.size + 1) 23 #[.string nb, .string db] := hW ▸ Bb.alloc _
  have Bc : Blk W8 (w.heap.size + 2) 23 #[.string nc, .string dc] := hW ▸ Bc.alloc _
  have Bab : Blk W8 (w1.heap.size) 23 #[.string S1, .string S2] := hW ▸ Bab.alloc _
  have Bba : Blk W8 (w2.heap.size) 23 #[.string S1, .string S2] := hW ▸ Bba.alloc _
  have Bbc : Blk W8 (w3.heap.size) 23 #[.string T1, .string T2] := hW ▸ Bbc.alloc _
  have Bl : Blk W8 (w4.heap.size) 23 #[.string P1, .string P2] := hW ▸ Bl.alloc _
  have Br : Blk W8 (w5.heap.size) 23 #[.string R1, .string R2] := hW ▸ Br.alloc _
  have Bu : Blk W8 w8.heap.size 23 #[.string U1, .string U2] := hW ▸ Blk.new _ _ _
  have hgeu := Lib.hid hbw.size
  have hbw : Below w.heap.size w W8 := hW ▸ hbw.alloc hbw.size _
  rw [← hW]
  clear hW
  have ca0 : W8.cell? ⟨w.heap.size, 0, none⟩ = some (.string na) := Ba.cell 0
  have ca1 : W8.cell? ⟨w.heap.size, 1, none⟩ = some (.string da) := Ba.cell 1
  have cc0 : W8.cell? ⟨w.heap.size + 2, 0, none⟩ = some (.string nc) := Bc.cell 0
  have cc1 : W8.cell? ⟨w.heap.size + 2, 1, none⟩ = some (.string dc) := Bc.cell 1
  go_wp2_with fail
  refine (prod_any na da nc dc W8 h1 h2 h5 h6 (HT.out.below hbw)).mono ?_
  obtain ⟨V1, V2, t, hq, hv⟩ := okV_form (okR (prodR (rx na da) (rx nc dc)))
  have QV1 := Lib.hid hq
  have NV1 := Lib.hid (size_of_small (by have e := congrArg Prod.fst hq; have h : smallR (okR (prodR (rx na da) (rx nc dc))).1 := small_prod (rx na da) (rx nc dc); rw [e] at h; exact h))
  rw [hv]
  clear hq hv
  rintro e w9 ⟨rfl, hb⟩
  clear ca0 ca1 cc0 cc1
  have Ba := Ba.below hb Ba.lt
  have Bb := Bb.below hb Bb.lt
  have Bc := Bc.below hb Bc.lt
  have Bab := Bab.below hb Bab.lt
  have Bba := Bba.below hb Bba.lt
  have Bbc := Bbc.below hb Bbc.lt
  have Bl := Bl.below hb Bl.lt
  have Br := Br.below hb Br.lt
  have Bu := Bu.below hb Bu.lt
  have hbw := hbw.trans (hb.mono hbw.size)
  clear hb
  go_upto_region 13 with (fail)
  obtain ⟨W9, hW⟩ : ∃ W', W' = w9.alloc (.cells #[.string V1, .string V2] 23 (0, 0)) := ⟨_, rfl⟩
  have Hav := Lib.hid (show w.heap.size < w9.heap.size from Ba.lt)
  have Hbv := Lib.hid (show w.heap.size + 1 < w9.heap.size from Bb.lt)
  have Hcv := Lib.hid (show w.heap.size + 2 < w9.heap.size from Bc.lt)
  have Habv := Lib.hid (show w1.heap.size < w9.heap.size from Bab.lt)
  have Hbav := Lib.hid (show w2.heap.size < w9.heap.size from Bba.lt)
  have Hbcv := Lib.hid (show w3.heap.size < w9.heap.size from Bbc.lt)
  have Hlv := Lib.hid (show w4.heap.size < w9.heap.size from Bl.lt)
  have Hrv := Lib.hid (show w5.heap.size < w9.heap.size from Br.lt)
  have Huv := Lib.hid (show w8.heap.size < w9.heap.size from Bu.lt)
  have Ba : Blk W9 (w.heap.size) 23 #[.string na, .string da] := hW ▸ Ba.alloc _
  have Bb : Blk W9 (w.heap.size + 1) 23 #[.string nb, .string db] := hW ▸ Bb.alloc _
  have Bc : Blk W9 (w.heap.size + 2) 23 #[.string nc, .string dc] := hW ▸ Bc.alloc _
  have Bab : Blk W9 (w1.heap.size) 23 #[.string S1, .string S2] := hW ▸ Bab.alloc _
  have Bba : Blk W9 (w2.heap.size) 23 #[.string S1, .string S2] := hW ▸ Bba.alloc _
  have Bbc : Blk W9 (w3.heap.size) 23 #[.string T1, .string T2] := hW ▸ Bbc.alloc _
  have Bl : Blk W9 (w4.heap.size) 23 #[.string P1, .string P2] := hW ▸ Bl.alloc _
  have Br : Blk W9 (w5.heap.size) 23 #[.string R1, .string R2] := hW ▸ Br.alloc _
  have Bu : Blk W9 (w8.heap.size) 23 #[.string U1, .string U2] := hW ▸ Bu.alloc _
  have Bv : Blk W9 w9.heap.size 23 #[.string V1, .string V2] := hW ▸ Blk.new _ _ _
  have hgev := Lib.hid hbw.size
  have hbw : Below w.heap.size w W9 := hW ▸ hbw.alloc hbw.size _
  rw [← hW]
  clear hW
  have cu0 : W9.cell? ⟨w8.heap.size, 0, none⟩ = some (.string U1) := Bu.cell 0
  have cu1 : W9.cell? ⟨w8.heap.size, 1, none⟩ = some (.string U2) := Bu.cell 1
  have cv0 : W9.cell? ⟨w9.heap.size, 0, none⟩ = some (.string V1) := Bv.cell 0
  have cv1 : W9.cell? ⟨w9.heap.size, 1, none⟩ = some (.string V2) := Bv.cell 1
  go_wp2_with fail
  refine (both_sum U1 U2 V1 V2 v t W9 NU1.out.1 NU1.out.2 NV1.out.1 NV1.out.2 (HT.out.below hbw)).mono ?_
  obtain ⟨X1, X2, q2, hq, hv⟩ := okV_form (bothR sumR (rx U1 U2) v (rx V1 V2) t)
  have QX1 := Lib.hid hq
  have NX1 := Lib.hid (size_of_small (by have e := congrArg Prod.fst hq; have h : smallR (bothR sumR (rx U1 U2) v (rx V1 V2) t).1 := small_both small_sum _ _ _ _; rw [e] at h; exact h))
  rw [hv]
  clear hq hv
  rintro e w10 ⟨rfl, hb⟩
  clear cu0 cu1 cv0 cv1
  have Ba := Ba.below hb Ba.lt
  have Bb := Bb.below hb Bb.lt
  have Bc := Bc.below hb Bc.lt
  have Bab := Bab.below hb Bab.lt
  have Bba := Bba.below hb Bba.lt
  have Bbc := Bbc.below hb Bbc.lt
  have Bl := Bl.below hb Bl.lt
  have Br := Br.below hb Br.lt
  have Bu := Bu.below hb Bu.lt
  have Bv := Bv.below hb Bv.lt
  have hbw := hbw.trans (hb.mono hbw.size)
  clear hb
  have cr0 : w10.cell? ⟨w5.heap.size, 0, none⟩ = some (.string R1) := Br.cell 0
  have cr1 : w10.cell? ⟨w5.heap.size, 1, none⟩ = some (.string R2) := Br.cell 1
  have zr0 : w10.frozen? ⟨w5.heap.size, 0, none⟩ = false := Br.frozen 0
  have zr1 : w10.frozen? ⟨w5.heap.size, 1, none⟩ = false := Br.frozen 1
  go_upto_region 14 with (fail)
  obtain ⟨W10, hW⟩ : ∃ W', W' = (w10.setCell ⟨w5.heap.size, 0, none⟩ (.string X1)).setCell ⟨w5.heap.size, 1, none⟩ (.string X2) := ⟨_, rfl⟩
  have Ba : Blk W10 (w.heap.size) 23 #[.string na, .string da] := hW ▸ Ba.far2 (Nat.ne_of_lt Har.out) _ _
  have Bb : Blk W10 (w.heap.size + 1) 23 #[.string nb, .string db] := hW ▸ Bb.far2 (Nat.ne_of_lt Hbr.out) _ _
  have Bc : Blk W10 (w.heap.size + 2) 23 #[.string nc, .string dc] := hW ▸ Bc.far2 (Nat.ne_of_lt Hcr.out) _ _
  have Bab : Blk W10 (w1.heap.size) 23 #[.string S1, .string S2] := hW ▸ Bab.far2 (Nat.ne_of_lt Habr.out) _ _
  have Bba : Blk W10 (w2.heap.size) 23 #[.string S1, .string S2] := hW ▸ Bba.far2 (Nat.ne_of_lt Hbar.out) _ _
  have Bbc : Blk W10 (w3.heap.size) 23 #[.string T1, .string T2] := hW ▸ Bbc.far2 (Nat.ne_of_lt Hbcr.out) _ _
  have Bl : Blk W10 (w4.heap.size) 23 #[.string P1, .string P2] := hW ▸ Bl.far2 (Nat.ne_of_lt Hlr.out) _ _
  have Br : Blk W10 (w5.heap.size) 23 #[.string X1, .string X2] := hW ▸ Br.store2 _ _
  have Bu : Blk W10 (w8.heap.size) 23 #[.string U1, .string U2] := hW ▸ Bu.far2 (Nat.ne_of_gt Hru.out) _ _
  have Bv : Blk W10 (w9.heap.size) 23 #[.string V1, .string V2] := hW ▸ Bv.far2 (Nat.ne_of_gt Hrv.out) _ _
  have hbw : Below w.heap.size w W10 := hW ▸ hbw.store2 hger.out _ _
  rw [← hW]
  clear hW
  clear cr0 cr1 zr0 zr1
  have HAG2 := Lib.hid (show p2 = true → q2 = true → P1 = X1 ∧ P2 = X2 from fun hp hq => rx_inj (distrib QT1.out QU1.out QV1.out (hp ▸ QP1.out) (hq ▸ QX1.out)))
  have cl0 : W10.cell? ⟨w4.heap.size, 0, none⟩ = some (.string P1) := Bl.cell 0
  have cl1 : W10.cell? ⟨w4.heap.size, 1, none⟩ = some (.string P2) := Bl.cell 1
  have cr0 : W10.cell? ⟨w5.heap.size, 0, none⟩ = some (.string X1) := Br.cell 0
  have cr1 : W10.cell? ⟨w5.heap.size, 1, none⟩ = some (.string X2) := Br.cell 1
  go_wp2_with fail
  refine (agree_any P1 P2 X1 X2 p2 q2 W10 HAG2.out).mono ?_

  rintro e w11 ⟨rfl, hb⟩
  clear cl0 cl1 cr0 cr1
  have Ba := Ba.below hb Ba.lt
  have Bb := Bb.below hb Bb.lt
  have Bc := Bc.below hb Bc.lt
  have Bab := Bab.below hb Bab.lt
  have Bba := Bba.below hb Bba.lt
  have Bbc := Bbc.below hb Bbc.lt
  have Bl := Bl.below hb Bl.lt
  have Br := Br.below hb Br.lt
  have Bu := Bu.below hb Bu.lt
  have Bv := Bv.below hb Bv.lt
  have hbw := hbw.trans (hb.mono hbw.size)
  clear hb
  go_upto_region 16 with (fail)
  have ca0 : w11.cell? ⟨w.heap.size, 0, none⟩ = some (.string na) := Ba.cell 0
  have ca1 : w11.cell? ⟨w.heap.size, 1, none⟩ = some (.string da) := Ba.cell 1
  go_wp2_with fail
  refine (Inv_any na da w11 h1 h2 (HT.out.below hbw)).mono ?_
  obtain ⟨I1, I2, k, hq, hv⟩ := outV_form (invR (rx na da))
  have QI1 := Lib.hid hq
  have NI1 := Lib.hid (size_of_small (by have e := congrArg Prod.fst hq; have h : smallR (invR (rx na da)).1 := small_inv (rx na da); rw [e] at h; exact h))
  rw [hv]
  clear hq hv
  rintro e w12 ⟨rfl, hb⟩
  clear ca0 ca1
  have Ba := Ba.below hb Ba.lt
  have Bb := Bb.below hb Bb.lt
  have Bc := Bc.below hb Bc.lt
  have Bab := Bab.below hb Bab.lt
  have Bba := Bba.below hb Bba.lt
  have Bbc := Bbc.below hb Bbc.lt
  have Bl := Bl.below hb Bl.lt
  have Br := Br.below hb Br.lt
  have Bu := Bu.below hb Bu.lt
  have Bv := Bv.below hb Bv.lt
  have hbw := hbw.trans (hb.mono hbw.size)
  clear hb
  go_upto_if 116 with (fail)
  obtain ⟨W12, hW⟩ : ∃ W', W' = w12.alloc (.cells #[.string I1, .string I2] 23 (0, 0)) := ⟨_, rfl⟩
  have Hai := Lib.hid (show w.heap.size < w12.heap.size from Ba.lt)
  have Hbi := Lib.hid (show w.heap.size + 1 < w12.heap.size from Bb.lt)
  have Hci := Lib.hid (show w.heap.size + 2 < w12.heap.size from Bc.lt)
  have Habi := Lib.hid (show w1.heap.size < w12.heap.size from Bab.lt)
  have Hbai := Lib.hid (show w2.heap.size < w12.heap.size from Bba.lt)
  have Hbci := Lib.hid (show w3.heap.size < w12.heap.size from Bbc.lt)
  have Hli := Lib.hid (show w4.heap.size < w12.heap.size from Bl.lt)
  have Hri := Lib.hid (show w5.heap.size < w12.heap.size from Br.lt)
  have Hui := Lib.hid (show w8.heap.size < w12.heap.size from Bu.lt)
  have Hvi := Lib.hid (show w9.heap.size < w12.heap.size from Bv.lt)
  have Ba : Blk W12 (w.heap.size) 23 #[.string na, .string da] := hW ▸ Ba.alloc _
  have Bb : Blk W12 (w.heap.size + 1) 23 #[.string nb, .string db] := hW ▸ Bb.alloc _
  have Bc : Blk W12 (w.heap.size + 2) 23 #[.string nc, .string dc] := hW ▸ Bc.alloc _
  have Bab : Blk W12 (w1.heap.size) 23 #[.string S1, .string S2] := hW ▸ Bab.alloc _
  have Bba : Blk W12 (w2.heap.size) 23 #[.string S1, .string S2] := hW ▸ Bba.alloc _
  have Bbc : Blk W12 (w3.heap.size) 23 #[.string T1, .string T2] := hW ▸ Bbc.alloc _
  have Bl : Blk W12 (w4.heap.size) 23 #[.string P1, .string P2] := hW ▸ Bl.alloc _
  have Br : Blk W12 (w5.heap.size) 23 #[.string X1, .string X2] := hW ▸ Br.alloc _
  have Bu : Blk W12 (w8.heap.size) 23 #[.string U1, .string U2] := hW ▸ Bu.alloc _
  have Bv : Blk W12 (w9.heap.size) 23 #[.string V1, .string V2] := hW ▸ Bv.alloc _
  have Bi : Blk W12 w12.heap.size 23 #[.string I1, .string I2] := hW ▸ Blk.new _ _ _
  have hgei := Lib.hid hbw.size
  have hbw : Below w.heap.size w W12 := hW ▸ hbw.alloc hbw.size _
  rw [← hW]
  clear hW
  have ca0 : W12.cell? ⟨w.heap.size, 0, none⟩ = some (.string na) := Ba.cell 0
  have ca1 : W12.cell? ⟨w.heap.size, 1, none⟩ = some (.string da) := Ba.cell 1
  have ci0 : W12.cell? ⟨w12.heap.size, 0, none⟩ = some (.string I1) := Bi.cell 0
  have ci1 : W12.cell? ⟨w12.heap.size, 1, none⟩ = some (.string I2) := Bi.cell 1
  go_cut [] (fun wc => Below W12.heap.size W12 wc)
  case first =>
    by_cases hk : k = 0
    · have hk2 : (((k : Nat) : Int) == 0) = true := by simp; omega
      have QI := Lib.hid (show invR (rx na da) = (rx I1 I2, 0) from hk ▸ QI1.out)
      clear hk
      go_wp2_with fail
      refine (prod_any na da I1 I2 W12 h1 h2 NI1.out.1 NI1.out.2 (HT.out.below hbw)).mono ?_
      obtain ⟨O1, O2, ok, hq, hv⟩ := okV_form (okR (prodR (rx na da) (rx I1 I2)))
      have QO := Lib.hid hq
      rw [hv]
      clear hq hv
      rintro e w20 ⟨rfl, hb⟩
      cases ok
      · go_wp2_with (fail)
        go_meet
        exact hb.alloc hb.size _
      · have ho : O1 = ⟨#[49]⟩ ∧ O2 = ⟨#[49]⟩ := rx_inj (inv_law QI.out QO.out)
        obtain ⟨rfl, rfl⟩ := ho
        go_wp2_with (fail)
        go_meet
        exact hb.alloc hb.size _
    · have hk2 : (((k : Nat) : Int) == 0) = false := by simp; omega
      clear hk
      go_wp2_with (fail)
      go_meet
      exact Below.refl _ _
  case rest =>
  clear ca0 ca1 ci0 ci1
  have Ba := Ba.below hcut Ba.lt
  have Bb := Bb.below hcut Bb.lt
  have Bc := Bc.below hcut Bc.lt
  have Bab := Bab.below hcut Bab.lt
  have Bba := Bba.below hcut Bba.lt
  have Bbc := Bbc.below hcut Bbc.lt
  have Bl := Bl.below hcut Bl.lt
  have Br := Br.below hcut Br.lt
  have Bu := Bu.below hcut Bu.lt
  have Bv := Bv.below hcut Bv.lt
  have Bi := Bi.below hcut Bi.lt
  have hbw := hbw.trans (hcut.mono hbw.size)
  clear hcut
  obtain ⟨⟨o, k2⟩, hord⟩ : ∃ q, ordR (rx na da) (rx nb db) = q := ⟨_, rfl⟩
  have QO := Lib.hid hord
  clear hord
  have ca0 : wc.cell? ⟨w.heap.size, 0, none⟩ = some (.string na) := Ba.cell 0
  have ca1 : wc.cell? ⟨w.heap.size, 1, none⟩ = some (.string da) := Ba.cell 1
  have cb0 : wc.cell? ⟨w.heap.size + 1, 0, none⟩ = some (.string nb) := Bb.cell 0
  have cb1 : wc.cell? ⟨w.heap.size + 1, 1, none⟩ = some (.string db) := Bb.cell 1
  go_wp2_with fail
  refine (Order_any na da nb db wc h1 h2 h3 h4).mono ?_
  rw [QO.out, show ordV (o, k2) = .tuple #[.int .i64 o, .int .i64 (k2 : Nat)] from rfl]
  rintro e w31 ⟨rfl, hb⟩
  clear ca0 ca1 cb0 cb1
  have Ba := Ba.below hb Ba.lt
  have Bb := Bb.below hb Bb.lt
  have Bc := Bc.below hb Bc.lt
  have Bab := Bab.below hb Bab.lt
  have Bba := Bba.below hb Bba.lt
  have Bbc := Bbc.below hb Bbc.lt
  have Bl := Bl.below hb Bl.lt
  have Br := Br.below hb Br.lt
  have Bu := Bu.below hb Bu.lt
  have Bv := Bv.below hb Bv.lt
  have Bi := Bi.below hb Bi.lt
  have hbw := hbw.trans (hb.mono hbw.size)
  clear hb
  go_upto_region 22 with (fail)
  have ca0 : w31.cell? ⟨w.heap.size, 0, none⟩ = some (.string na) := Ba.cell 0
  have ca1 : w31.cell? ⟨w.heap.size, 1, none⟩ = some (.string da) := Ba.cell 1
  have cc0 : w31.cell? ⟨w.heap.size + 2, 0, none⟩ = some (.string nc) := Bc.cell 0
  have cc1 : w31.cell? ⟨w.heap.size + 2, 1, none⟩ = some (.string dc) := Bc.cell 1
  go_wp2_with fail
  refine (sum_any na da nc dc w31 h1 h2 h5 h6 (HT.out.below hbw)).mono ?_
  obtain ⟨C1, C2, m, hq, hv⟩ := okV_form (okR (sumR (rx na da) (rx nc dc)))
  have QC1 := Lib.hid hq
  have NC1 := Lib.hid (size_of_small (by have e := congrArg Prod.fst hq; have h : smallR (okR (sumR (rx na da) (rx nc dc))).1 := small_sum (rx na da) (rx nc dc); rw [e] at h; exact h))
  rw [hv]
  clear hq hv
  rintro e w32 ⟨rfl, hb⟩
  clear ca0 ca1 cc0 cc1
  have Ba := Ba.below hb Ba.lt
  have Bb := Bb.below hb Bb.lt
  have Bc := Bc.below hb Bc.lt
  have Bab := Bab.below hb Bab.lt
  have Bba := Bba.below hb Bba.lt
  have Bbc := Bbc.below hb Bbc.lt
  have Bl := Bl.below hb Bl.lt
  have Br := Br.below hb Br.lt
  have Bu := Bu.below hb Bu.lt
  have Bv := Bv.below hb Bv.lt
  have Bi := Bi.below hb Bi.lt
  have hbw := hbw.trans (hb.mono hbw.size)
  clear hb
  go_upto_region 23 with (fail)
  obtain ⟨W32, hW⟩ : ∃ W', W' = w32.alloc (.cells #[.string C1, .string C2] 23 (0, 0)) := ⟨_, rfl⟩
  have Haac := Lib.hid (show w.heap.size < w32.heap.size from Ba.lt)
  have Hbac := Lib.hid (show w.heap.size + 1 < w32.heap.size from Bb.lt)
  have Hcac := Lib.hid (show w.heap.size + 2 < w32.heap.size from Bc.lt)
  have Habac := Lib.hid (show w1.heap.size < w32.heap.size from Bab.lt)
  have Hbaac := Lib.hid (show w2.heap.size < w32.heap.size from Bba.lt)
  have Hbcac := Lib.hid (show w3.heap.size < w32.heap.size from Bbc.lt)
  have Hlac := Lib.hid (show w4.heap.size < w32.heap.size from Bl.lt)
  have Hrac := Lib.hid (show w5.heap.size < w32.heap.size from Br.lt)
  have Huac := Lib.hid (show w8.heap.size < w32.heap.size from Bu.lt)
  have Hvac := Lib.hid (show w9.heap.size < w32.heap.size from Bv.lt)
  have Hiac := Lib.hid (show w12.heap.size < w32.heap.size from Bi.lt)
  have Ba : Blk W32 (w.heap.size) 23 #[.string na, .string da] := hW ▸ Ba.alloc _
  have Bb : Blk W32 (w.heap.size + 1) 23 #[.string nb, .string db] := hW ▸ Bb.alloc _
  have Bc : Blk W32 (w.heap.size + 2) 23 #[.string nc, .string dc] := hW ▸ Bc.alloc _
  have Bab : Blk W32 (w1.heap.size) 23 #[.string S1, .string S2] := hW ▸ Bab.alloc _
  have Bba : Blk W32 (w2.heap.size) 23 #[.string S1, .string S2] := hW ▸ Bba.alloc _
  have Bbc : Blk W32 (w3.heap.size) 23 #[.string T1, .string T2] := hW ▸ Bbc.alloc _
  have Bl : Blk W32 (w4.heap.size) 23 #[.string P1, .string P2] := hW ▸ Bl.alloc _
  have Br : Blk W32 (w5.heap.size) 23 #[.string X1, .string X2] := hW ▸ Br.alloc _
  have Bu : Blk W32 (w8.heap.size) 23 #[.string U1, .string U2] := hW ▸ Bu.alloc _
  have Bv : Blk W32 (w9.heap.size) 23 #[.string V1, .string V2] := hW ▸ Bv.alloc _
  have Bi : Blk W32 (w12.heap.size) 23 #[.string I1, .string I2] := hW ▸ Bi.alloc _
  have Bac : Blk W32 w32.heap.size 23 #[.string C1, .string C2] := hW ▸ Blk.new _ _ _
  have hgeac := Lib.hid hbw.size
  have hbw : Below w.heap.size w W32 := hW ▸ hbw.alloc hbw.size _
  rw [← hW]
  clear hW
  have cac0 : W32.cell? ⟨w32.heap.size, 0, none⟩ = some (.string C1) := Bac.cell 0
  have cac1 : W32.cell? ⟨w32.heap.size, 1, none⟩ = some (.string C2) := Bac.cell 1
  have cbc0 : W32.cell? ⟨w3.heap.size, 0, none⟩ = some (.string T1) := Bbc.cell 0
  have cbc1 : W32.cell? ⟨w3.heap.size, 1, none⟩ = some (.string T2) := Bbc.cell 1
  by_cases hk : k2 = 0
  rotate_left
  · have hk2 : (((k2 : Nat) : Int) != 0) = true := by simp; omega
    go_wp2
    go_ret
    exact ⟨rfl, hbw⟩
  have hk2 : (((k2 : Nat) : Int) != 0) = false := by simp; omega
  have QO := Lib.hid (show (ordR (rx na da) (rx nb db)).2 = 0 ∧ (ordR (rx na da) (rx nb db)).1 = o by rw [QO.out]; exact ⟨hk, rfl⟩)
  clear hk
  cases m
  · go_wp2
    go_ret
    exact ⟨rfl, hbw⟩
  cases z
  · go_wp2
    go_ret
    exact ⟨rfl, hbw⟩
  have QL := Lib.hid (ord_law QO.out.1 QC1.out QT1.out)
  go_wp2_with fail
  refine (Order_any C1 C2 T1 T2 W32 NC1.out.1 NC1.out.2 NT1.out.1 NT1.out.2).mono ?_
  rw [QL.out, QO.out.2, show ordV (o, 0) = .tuple #[.int .i64 o, .int .i64 0] from rfl]
  rintro e w40 ⟨rfl, hb⟩
  go_wp2
  go_ret
  exact ⟨ret_bool (by simp), hbw.trans (hb.mono hbw.size)⟩
end Go.Proofs.YtdgocbkkdamgeaaDoor
