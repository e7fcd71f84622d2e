/- The walk of the law 'ValueRoundingMatchesSpec': it returns true at every ratio's texts, every number of places and every value. -/
import Derived.Test.YtmpelpmhbadjoaaGreatDoorRd5
namespace Go.Proofs.YtmpelpmhbadjoaaGreatDoor
open Go.RowKit Limb Dig Rtx

theorem decV_parts (p : List UInt8 × Nat) : ∃ t : ByteArray, ∃ k : Nat, decV p = .tuple #[.string t, .int .i64 (k : Nat)] := ⟨⟨p.1.toArray⟩, p.2, rfl⟩
set_option maxHeartbeats 8000000 in
set_option maxRecDepth 100000 in
theorem rounding_any (na da : ByteArray) (p : Int) (x : Val) (A : Option Addr) (c : Nat) (w : World) (h1 : na.size ≤ maxLen) (h2 : da.size ≤ maxLen)
    (hn : x.l.length ≤ maxLen) (hs : x.s.size ≤ maxLen) (hx : Reads w w.heap.size 1 A x.l.length (numV .i64 x.l)) (i1 : -9223372036854775808 ≤ x.n) (i2 : x.n ≤ 9223372036854775807) (htab : Tab w) :
    Calls Tryz.prog 4 #[.agg #[.string na, .string da], .int .i64 p, .agg #[.int .i64 x.k, .int .i64 x.n, .string x.s, .slice A x.l.length c]] w fun e w' => e = .returned (.bool true) ∧ Below w.heap.size w w' := by
  have HT := Lib.hid htab
  have HX := Lib.hid hx
  clear htab hx
  go_enter Tryz.func4, Tryz.ntmps4
  go_upto_region 1 with (fail)
  obtain ⟨W0, hW⟩ : ∃ W, W = ((w.alloc (.cells #[.string na, .string da] 23 (0, 0))).alloc (.cells #[.int .i64 x.k, .int .i64 x.n, .string x.s, .slice A x.l.length c] 35 (0, 0))) := ⟨_, rfl⟩
  have hbw : Below w.heap.size w W0 := by rw [hW]; exact (((Below.refl _ w).alloc (Nat.le_refl _) _).alloc (by simp) _)
  have Ba : Blk W0 (w.heap.size) 23 #[.string na, .string da] := by
    rw [hW]
    have := Blk.new w 23 #[.string na, .string da]
    have := this.alloc (.cells #[.int .i64 x.k, .int .i64 x.n, .string x.s, .slice A x.l.length c] 35 (0, 0))
    exact this
  have Bv : Blk W0 (w.heap.size + 1) 35 #[.int .i64 x.k, .int .i64 x.n, .string x.s, .slice A x.l.length c] := by
    rw [hW]
    have := Blk.new (w.alloc (.cells #[.string na, .string da] 23 (0, 0))) 35 #[.int .i64 x.k, .int .i64 x.n, .string x.s, .slice A x.l.length c]
    rwa [World.size_alloc] at this
  have hsz : W0.heap.size = w.heap.size + 2 := by rw [hW]; simp
  rw [← hW]
  clear hW
  have HSZ := Lib.hid hsz
  clear hsz
  have ca0 : W0.cell? ⟨w.heap.size, 0, none⟩ = some (.string na) := Ba.cell 0
  have ca1 : W0.cell? ⟨w.heap.size, 1, none⟩ = some (.string da) := Ba.cell 1
  go_wp2_with fail
  refine (Rounded_any na da p W0 h1 h2 (HT.out.below hbw)).mono ?_
  obtain ⟨S1, S2, k0, -, hv⟩ := outV_parts (roundR (rx na da) p)
  have QS1 := Lib.hid hv
  rw [hv]
  clear hv
  rintro e w1 ⟨rfl, hb⟩
  clear ca0 ca1
  have Ba := Ba.below hb Ba.lt
  have Bv := Bv.below hb Bv.lt
  have hbw := hbw.trans (hb.mono hbw.size)
  clear hb
  go_upto_region 2 with (fail)
  obtain ⟨W1, hW⟩ : ∃ W', W' = w1.alloc (.cells #[.string S1, .string S2] 23 (0, 0)) := ⟨_, rfl⟩
  have Har := Lib.hid (show w.heap.size < w1.heap.size from Ba.lt)
  have Hvr := Lib.hid (show w.heap.size + 1 < w1.heap.size from Bv.lt)
  have Ba : Blk W1 (w.heap.size) 23 #[.string na, .string da] := hW ▸ Ba.alloc _
  have Bv : Blk W1 (w.heap.size + 1) 35 #[.int .i64 x.k, .int .i64 x.n, .string x.s, .slice A x.l.length c] := hW ▸ Bv.alloc _
  have Br : Blk W1 w1.heap.size 23 #[.string S1, .string S2] := hW ▸ Blk.new _ _ _
  have hger := Lib.hid hbw.size
  have hbw : Below w.heap.size w W1 := hW ▸ hbw.alloc hbw.size _
  rw [← hW]
  clear hW
  have ca0 : W1.cell? ⟨w.heap.size, 0, none⟩ = some (.string na) := Ba.cell 0
  have ca1 : W1.cell? ⟨w.heap.size, 1, none⟩ = some (.string da) := Ba.cell 1
  go_wp2_with fail
  refine (rRounded_any na da p W1 h1 h2 (HT.out.below hbw)).mono ?_
  rw [QS1.out]
  rintro e w2 ⟨rfl, hb⟩
  clear ca0 ca1
  have Ba := Ba.below hb Ba.lt
  have Bv := Bv.below hb Bv.lt
  have Br := Br.below hb Br.lt
  have hbw := hbw.trans (hb.mono hbw.size)
  clear hb
  go_upto_region 3 with (fail)
  obtain ⟨W2, hW⟩ : ∃ W', W' = w2.alloc (.cells #[.string S1, .string S2] 23 (0, 0)) := ⟨_, rfl⟩
  have Has := Lib.hid (show w.heap.size < w2.heap.size from Ba.lt)
  have Hvs := Lib.hid (show w.heap.size + 1 < w2.heap.size from Bv.lt)
  have Hrs := Lib.hid (show w1.heap.size < w2.heap.size from Br.lt)
  have Ba : Blk W2 (w.heap.size) 23 #[.string na, .string da] := hW ▸ Ba.alloc _
  have Bv : Blk W2 (w.heap.size + 1) 35 #[.int .i64 x.k, .int .i64 x.n, .string x.s, .slice A x.l.length c] := hW ▸ Bv.alloc _
  have Br : Blk W2 (w1.heap.size) 23 #[.string S1, .string S2] := hW ▸ Br.alloc _
  have Bs : Blk W2 w2.heap.size 23 #[.string S1, .string S2] := hW ▸ Blk.new _ _ _
  have hges := Lib.hid hbw.size
  have hbw : Below w.heap.size w W2 := hW ▸ hbw.alloc hbw.size _
  rw [← hW]
  clear hW
  have ca0 : W2.cell? ⟨w.heap.size, 0, none⟩ = some (.string na) := Ba.cell 0
  have ca1 : W2.cell? ⟨w.heap.size, 1, none⟩ = some (.string da) := Ba.cell 1
  go_wp2_with fail
  refine (Decimal_any na da p W2 h1 h2 (HT.out.below hbw)).mono ?_
  obtain ⟨D1, k1, hv⟩ := decV_parts (decR (rx na da) p)
  have QD1 := Lib.hid hv
  rw [hv]
  clear hv
  rintro e w3 ⟨rfl, hb⟩
  clear ca0 ca1
  have Ba := Ba.below hb Ba.lt
  have Bv := Bv.below hb Bv.lt
  have Br := Br.below hb Br.lt
  have Bs := Bs.below hb Bs.lt
  have hbw := hbw.trans (hb.mono hbw.size)
  clear hb
  go_upto_region 4 with (fail)
  have ca0 : w3.cell? ⟨w.heap.size, 0, none⟩ = some (.string na) := Ba.cell 0
  have ca1 : w3.cell? ⟨w.heap.size, 1, none⟩ = some (.string da) := Ba.cell 1
  go_wp2_with fail
  refine (rDecimal_any na da p w3 h1 h2 (HT.out.below hbw)).mono ?_
  rw [QD1.out]
  rintro e w4 ⟨rfl, hb⟩
  clear ca0 ca1
  have Ba := Ba.below hb Ba.lt
  have Bv := Bv.below hb Bv.lt
  have Br := Br.below hb Br.lt
  have Bs := Bs.below hb Bs.lt
  have hbw := hbw.trans (hb.mono hbw.size)
  clear hb
  go_upto_region 5 with (fail)
  have cv0 : w4.cell? ⟨w.heap.size + 1, 0, none⟩ = some (.int .i64 x.k) := Bv.cell 0
  have cv1 : w4.cell? ⟨w.heap.size + 1, 1, none⟩ = some (.int .i64 x.n) := Bv.cell 1
  have cv2 : w4.cell? ⟨w.heap.size + 1, 2, none⟩ = some (.string x.s) := Bv.cell 2
  have cv3 : w4.cell? ⟨w.heap.size + 1, 3, none⟩ = some (.slice A x.l.length c) := Bv.cell 3
  go_wp2_with fail
  refine (Exact_any x A c w4 hn hs ((HX.out.below hbw).more hbw.size) i1 i2 (HT.out.below hbw)).mono ?_
  obtain ⟨E1, E2, k2, -, hv⟩ := outV_parts (exactR x)
  have QE1 := Lib.hid hv
  rw [hv]
  clear hv
  rintro e w5 ⟨rfl, hb⟩
  clear cv0 cv1 cv2 cv3
  have Ba := Ba.below hb Ba.lt
  have Bv := Bv.below hb Bv.lt
  have Br := Br.below hb Br.lt
  have Bs := Bs.below hb Bs.lt
  have hbw := hbw.trans (hb.mono hbw.size)
  clear hb
  go_upto_region 6 with (fail)
  obtain ⟨W5, hW⟩ : ∃ W', W' = w5.alloc (.cells #[.string E1, .string E2] 23 (0, 0)) := ⟨_, rfl⟩
  have Hae := Lib.hid (show w.heap.size < w5.heap.size from Ba.lt)
  have Hve := Lib.hid (show w.heap.size + 1 < w5.heap.size from Bv.lt)
  have Hre := Lib.hid (show w1.heap.size < w5.heap.size from Br.lt)
  have Hse := Lib.hid (show w2.heap.size < w5.heap.size from Bs.lt)
  have Ba : Blk W5 (w.heap.size) 23 #[.string na, .string da] := hW ▸ Ba.alloc _
  have Bv : Blk W5 (w.heap.size + 1) 35 #[.int .i64 x.k, .int .i64 x.n, .string x.s, .slice A x.l.length c] := hW ▸ Bv.alloc _
  have Br : Blk W5 (w1.heap.size) 23 #[.string S1, .string S2] := hW ▸ Br.alloc _
  have Bs : Blk W5 (w2.heap.size) 23 #[.string S1, .string S2] := hW ▸ Bs.alloc _
  have Be : Blk W5 w5.heap.size 23 #[.string E1, .string E2] := hW ▸ Blk.new _ _ _
  have hgee := Lib.hid hbw.size
  have hbw : Below w.heap.size w W5 := hW ▸ hbw.alloc hbw.size _
  rw [← hW]
  clear hW
  have cv0 : W5.cell? ⟨w.heap.size + 1, 0, none⟩ = some (.int .i64 x.k) := Bv.cell 0
  have cv1 : W5.cell? ⟨w.heap.size + 1, 1, none⟩ = some (.int .i64 x.n) := Bv.cell 1
  have cv2 : W5.cell? ⟨w.heap.size + 1, 2, none⟩ = some (.string x.s) := Bv.cell 2
  have cv3 : W5.cell? ⟨w.heap.size + 1, 3, none⟩ = some (.slice A x.l.length c) := Bv.cell 3
  go_wp2_with fail
  refine (rExact_any x A c W5 hn hs ((HX.out.below hbw).more hbw.size) i1 i2 (HT.out.below hbw)).mono ?_
  rw [QE1.out]
  rintro e w6 ⟨rfl, hb⟩
  clear cv0 cv1 cv2 cv3
  have Ba := Ba.below hb Ba.lt
  have Bv := Bv.below hb Bv.lt
  have Br := Br.below hb Br.lt
  have Bs := Bs.below hb Bs.lt
  have Be := Be.below hb Be.lt
  have hbw := hbw.trans (hb.mono hbw.size)
  clear hb
  go_upto_region 7 with (fail)
  obtain ⟨W6, hW⟩ : ∃ W', W' = w6.alloc (.cells #[.string E1, .string E2] 23 (0, 0)) := ⟨_, rfl⟩
  have Haf := Lib.hid (show w.heap.size < w6.heap.size from Ba.lt)
  have Hvf := Lib.hid (show w.heap.size + 1 < w6.heap.size from Bv.lt)
  have Hrf := Lib.hid (show w1.heap.size < w6.heap.size from Br.lt)
  have Hsf := Lib.hid (show w2.heap.size < w6.heap.size from Bs.lt)
  have Hef := Lib.hid (show w5.heap.size < w6.heap.size from Be.lt)
  have Ba : Blk W6 (w.heap.size) 23 #[.string na, .string da] := hW ▸ Ba.alloc _
  have Bv : Blk W6 (w.heap.size + 1) 35 #[.int .i64 x.k, .int .i64 x.n, .string x.s, .slice A x.l.length c] := hW ▸ Bv.alloc _
  have Br : Blk W6 (w1.heap.size) 23 #[.string S1, .string S2] := hW ▸ Br.alloc _
  have Bs : Blk W6 (w2.heap.size) 23 #[.string S1, .string S2] := hW ▸ Bs.alloc _
  have Be : Blk W6 (w5.heap.size) 23 #[.string E1, .string E2] := hW ▸ Be.alloc _
  have Bf : Blk W6 w6.heap.size 23 #[.string E1, .string E2] := hW ▸ Blk.new _ _ _
  have hgef := Lib.hid hbw.size
  have hbw : Below w.heap.size w W6 := hW ▸ hbw.alloc hbw.size _
  rw [← hW]
  clear hW
  have cr0 : W6.cell? ⟨w1.heap.size, 0, none⟩ = some (.string S1) := Br.cell 0
  have cr1 : W6.cell? ⟨w1.heap.size, 1, none⟩ = some (.string S2) := Br.cell 1
  have cs0 : W6.cell? ⟨w2.heap.size, 0, none⟩ = some (.string S1) := Bs.cell 0
  have cs1 : W6.cell? ⟨w2.heap.size, 1, none⟩ = some (.string S2) := Bs.cell 1
  have ce0 : W6.cell? ⟨w5.heap.size, 0, none⟩ = some (.string E1) := Be.cell 0
  have ce1 : W6.cell? ⟨w5.heap.size, 1, none⟩ = some (.string E2) := Be.cell 1
  have cf0 : W6.cell? ⟨w6.heap.size, 0, none⟩ = some (.string E1) := Bf.cell 0
  have cf1 : W6.cell? ⟨w6.heap.size, 1, none⟩ = some (.string E2) := Bf.cell 1
  have hk0 : (((k0 : Nat) : Int) == (k0 : Nat)) = true := by simp
  have hk1 : (((k1 : Nat) : Int) == (k1 : Nat)) = true := by simp
  have hk2 : (((k2 : Nat) : Int) == (k2 : Nat)) = true := by simp
  go_wp2
  go_ret
  exact ⟨ret_bool (by simp), hbw⟩
end Go.Proofs.YtmpelpmhbadjoaaGreatDoor
