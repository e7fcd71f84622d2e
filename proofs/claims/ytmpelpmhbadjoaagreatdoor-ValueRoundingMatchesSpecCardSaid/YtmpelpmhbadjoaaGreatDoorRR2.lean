/- The reference's shut: lowest terms, their texts, the limit. -/
import Derived.Test.YtmpelpmhbadjoaaGreatDoorRR1
import Derived.Outline
namespace Go.Proofs.YtmpelpmhbadjoaaGreatDoor
open Go.RowKit Limb Dig Rtx

theorem rover_q (w : World) (L : Nat) (va vb : Value) (x y : Nat) (hra : RepI w L va x) (hrb : RepI w L vb y) (hL : L ≤ 10000) (hy : 0 < y) :
    Calls Tryz.prog 53 #[va, vb] w fun e w' => (∃ A1 n1 c1 A2 n2 c2, e = .returned (.tuple #[.slice A1 n1 c1, .slice A2 n2 c2]) ∧ RepI w' L (.slice A1 n1 c1) (x / y) ∧ (0 < n1 ↔ 0 < x / y)) ∧ Below w.heap.size w w' :=
  (rover_rep w L L va vb x y hra hrb hL hL hy).mono fun e w' ⟨⟨q, r, he, hq, hr⟩, hb⟩ => by
    obtain ⟨A1, n1, c1, rfl, h1, _⟩ := hq.form
    obtain ⟨A2, n2, c2, rfl, _, _⟩ := hr.form
    exact ⟨⟨_, _, _, _, _, _, he, hq, h1⟩, hb⟩
theorem outV_out {p : R × Nat} {S1 S2 : ByteArray} {k : Nat} (h1 : p.1.n = S1.data.toList) (h2 : p.1.d = S2.data.toList) (h3 : p.2 = k) : outV p = .tuple #[.agg #[.string S1, .string S2], .int .i64 (k : Int)] := by
  unfold outV ratV
  rw [h1, h2, h3]
set_option maxHeartbeats 4000000 in
set_option maxRecDepth 100000 in
theorem shut_q (w : World) (L x y : Nat) (v : Value) (neg : Bool) (q : Rat) (h : FracI w L v neg x y) (hq : ratQ neg x y = q) (hL : L ≤ 10000) (htab : Tab w) :
    Calls Tryz.prog 26 #[v] w fun e w' => (∃ S1 S2 k, e = .returned (.tuple #[.agg #[.string S1, .string S2], .int .i64 k]) ∧ outV (outR q) = .tuple #[.agg #[.string S1, .string S2], .int .i64 k]) ∧ Below w.heap.size w w' := by
  obtain ⟨A1, n1, c1, A2, n2, c2, rfl, hx, hy, hy0⟩ := h.ex
  have HX := Lib.hid hx
  have HY := Lib.hid hy
  have HT := Lib.hid htab
  obtain ⟨l1, l2, l3⟩ := ratQ_low neg x y hy0
  rw [hq] at l1 l2 l3
  have HL1 := Lib.hid l1
  have HL2 := Lib.hid l2
  have HL3 := Lib.hid l3
  have hg0 := Nat.gcd_pos_of_pos_right x hy0
  have HPX := Lib.hid (div_gcd_pos (x := x) hy0)
  clear hx hy h htab hq l1 l2 l3
  go_enter Tryz.func26, Tryz.ntmps26
  go_wp2_with fail
  obtain ⟨W, hW⟩ : ∃ W, W = ((w.alloc (.cells #[.bool neg, .slice A1 n1 c1, .slice A2 n2 c2] 53 (0, 0))).alloc (.cells #[.string ⟨#[]⟩, .string ⟨#[]⟩] 23 (0, 0))) := ⟨_, rfl⟩
  have hbw : Below w.heap.size w W := by rw [hW]; exact (((Below.refl _ w).alloc (Nat.le_refl _) _).alloc (by simp) _)
  have B0 : Blk W (w.heap.size) 53 #[.bool neg, .slice A1 n1 c1, .slice A2 n2 c2] := by
    rw [hW]
    have := Blk.new w 53 #[.bool neg, .slice A1 n1 c1, .slice A2 n2 c2]
    have := this.alloc (.cells #[.string ⟨#[]⟩, .string ⟨#[]⟩] 23 (0, 0))
    exact this
  have B1 : Blk W (w.heap.size + 1) 23 #[.string ⟨#[]⟩, .string ⟨#[]⟩] := by
    rw [hW]
    have := Blk.new (w.alloc (.cells #[.bool neg, .slice A1 n1 c1, .slice A2 n2 c2] 53 (0, 0))) 23 #[.string ⟨#[]⟩, .string ⟨#[]⟩]
    rwa [World.size_alloc] at this
  have hsz : W.heap.size = w.heap.size + 2 := by rw [hW]; simp
  rw [← hW]
  clear hW hsz
  refine (rcommon_rep W L _ _ _ _ (HX.out.below hbw) (HY.out.below hbw) hL).mono ?_
  rintro e w1 ⟨⟨vg, rfl, hvg⟩, hb1⟩
  have HVG := Lib.hid hvg
  have B0 := B0.below hb1 B0.lt
  have B1 := B1.below hb1 B1.lt
  have hbw := hbw.trans (hb1.mono hbw.size)
  clear hvg hb1
  have fc0 : w1.cell? ⟨w.heap.size, 0, none⟩ = some (.bool neg) := B0.cell 0
  have fc1 : w1.cell? ⟨w.heap.size, 1, none⟩ = some (.slice A1 n1 c1) := B0.cell 1
  have fc2 : w1.cell? ⟨w.heap.size, 2, none⟩ = some (.slice A2 n2 c2) := B0.cell 2
  go_wp2_with fail
  refine (rover_q w1 L _ _ _ _ (HX.out.below hbw) HVG.out hL hg0).mono ?_
  rintro e w2 ⟨⟨A3, n3, c3, A4, n4, c4, rfl, hnq, hn3⟩, hb2⟩
  have HNQ := Lib.hid hnq
  have HN3 := Lib.hid hn3
  have HVG := Lib.hid (HVG.out.below hb2)
  have B0 := B0.below hb2 B0.lt
  have B1 := B1.below hb2 B1.lt
  have hbw := hbw.trans (hb2.mono hbw.size)
  clear hnq hn3 hb2 fc0 fc1 fc2
  have fc0 : w2.cell? ⟨w.heap.size, 0, none⟩ = some (.bool neg) := B0.cell 0
  have fc1 : w2.cell? ⟨w.heap.size, 1, none⟩ = some (.slice A1 n1 c1) := B0.cell 1
  have fc2 : w2.cell? ⟨w.heap.size, 2, none⟩ = some (.slice A2 n2 c2) := B0.cell 2
  go_wp2_with fail
  refine (rover_q w2 L _ _ _ _ (HY.out.below hbw) HVG.out hL hg0).mono ?_
  rintro e w3 ⟨⟨A5, n5, c5, A6, n6, c6, rfl, hdq, -⟩, hb3⟩
  have HDQ := Lib.hid hdq
  have HNQ := Lib.hid (HNQ.out.below hb3)
  have B0 := B0.below hb3 B0.lt
  have B1 := B1.below hb3 B1.lt
  have hbw := hbw.trans (hb3.mono hbw.size)
  clear hdq hb3 fc0 fc1 fc2
  go_wp2_with fail
  refine (text_q L _ _ w3 HNQ.out (by omega) (HT.out.below hbw)).mono ?_
  rintro e w4 ⟨⟨tn, rfl, htn⟩, hb4⟩
  have HTN := Lib.hid htn
  have HDQ := Lib.hid (HDQ.out.below hb4)
  have B0 := B0.below hb4 B0.lt
  have B1 := B1.below hb4 B1.lt
  have hbw := hbw.trans (hb4.mono hbw.size)
  clear htn hb4
  go_wp2_with fail
  refine (text_q L _ _ w4 HDQ.out (by omega) (HT.out.below hbw)).mono ?_
  rintro e w5 ⟨⟨td, rfl, htd⟩, hb5⟩
  have HTD := Lib.hid htd
  have B0 := B0.below hb5 B0.lt
  have B1 := B1.below hb5 B1.lt
  have hbw := hbw.trans (hb5.mono hbw.size)
  clear htd hb5
  go_upto_region 5 with (fail)
  obtain ⟨W6, hW6⟩ : ∃ W6, W6 = w5.alloc (.cells #[.string tn, .string td] 23 (0, 0)) := ⟨_, rfl⟩
  have hl1 : w.heap.size + 1 < w5.heap.size := B1.lt
  have B0 : Blk W6 w.heap.size 53 #[.bool neg, .slice A1 n1 c1, .slice A2 n2 c2] := hW6 ▸ B0.alloc _
  have B1 : Blk W6 (w.heap.size + 1) 23 #[.string ⟨#[]⟩, .string ⟨#[]⟩] := hW6 ▸ B1.alloc _
  have B2 : Blk W6 w5.heap.size 23 #[.string tn, .string td] := hW6 ▸ Blk.new _ _ _
  have hbw : Below w.heap.size w W6 := hW6 ▸ hbw.alloc hbw.size _
  rw [← hW6]
  clear hW6
  have HS1 := Lib.hid (show tn.size = (decS q.num.natAbs).length by rw [HL1.out]; exact dsize HTN.out)
  have HS2 := Lib.hid (show td.size = (denS q).length by unfold denS; rw [HL2.out]; exact dsize HTD.out)
  have HDN := Lib.hid (show denS q = td.data.toList by unfold denS; rw [HL2.out]; exact HTD.out.symm)
  have fc0 : W6.cell? ⟨w.heap.size, 0, none⟩ = some (.bool neg) := B0.cell 0
  have fc1 : W6.cell? ⟨w.heap.size, 1, none⟩ = some (.slice A1 n1 c1) := B0.cell 1
  have fc2 : W6.cell? ⟨w.heap.size, 2, none⟩ = some (.slice A2 n2 c2) := B0.cell 2
  have rc0 : W6.cell? ⟨w.heap.size + 1, 0, none⟩ = some (.string ⟨#[]⟩) := B1.cell 0
  have rz0 : W6.frozen? ⟨w.heap.size + 1, 0, none⟩ = false := B1.frozen 0
  have rc1 : W6.cell? ⟨w.heap.size + 1, 1, none⟩ = some (.string ⟨#[]⟩) := B1.cell 1
  have rz1 : W6.frozen? ⟨w.heap.size + 1, 1, none⟩ = false := B1.frozen 1
  have tc0 : W6.cell? ⟨w5.heap.size, 0, none⟩ = some (.string tn) := B2.cell 0
  have tz0 : W6.frozen? ⟨w5.heap.size, 0, none⟩ = false := B2.frozen 0
  have tc1 : W6.cell? ⟨w5.heap.size, 1, none⟩ = some (.string td) := B2.cell 1
  have tz1 : W6.frozen? ⟨w5.heap.size, 1, none⟩ = false := B2.frozen 1
  by_cases h1 : 2000 < tn.size
  · have hx2 : td.size ≤ 2000 ∨ 2000 < td.size := by omega
    have HE := Lib.hid (show outR q = (noR, 2) from if_pos (.inl (by rw [← HS1.out]; exact h1)))
    go_wp2
    obtain ⟨W9, hW9⟩ : ∃ W9, W9 = (W6.setCell ⟨w.heap.size + 1, 0, none⟩ (.string ⟨#[]⟩)).setCell ⟨w.heap.size + 1, 1, none⟩ (.string ⟨#[]⟩) := ⟨_, rfl⟩
    have B9 : Blk W9 (w.heap.size + 1) 23 #[.string ⟨#[]⟩, .string ⟨#[]⟩] := hW9 ▸ B1.store2 _ _
    have hbw9 : Below w.heap.size w W9 := hW9 ▸ hbw.store2 (by omega) _ _
    rw [← hW9]
    clear hW9
    have qc0 : W9.cell? ⟨w.heap.size + 1, 0, none⟩ = some (.string ⟨#[]⟩) := B9.cell 0
    have qc1 : W9.cell? ⟨w.heap.size + 1, 1, none⟩ = some (.string ⟨#[]⟩) := B9.cell 1
    refine bodyPost_ret (v := .tuple #[.agg #[.string ⟨#[]⟩, .string ⟨#[]⟩], .int .i64 2]) (by simp [results, Tryz.results26, go_sem, qc0, qc1]) rfl ⟨⟨_, _, _, rfl, by rw [HE.out]; rfl⟩, hbw9⟩
  by_cases h2 : 2000 < td.size
  · have HE := Lib.hid (show outR q = (noR, 2) from if_pos (.inr (by rw [← HS2.out]; exact h2)))
    go_wp2
    obtain ⟨W9, hW9⟩ : ∃ W9, W9 = (W6.setCell ⟨w.heap.size + 1, 0, none⟩ (.string ⟨#[]⟩)).setCell ⟨w.heap.size + 1, 1, none⟩ (.string ⟨#[]⟩) := ⟨_, rfl⟩
    have B9 : Blk W9 (w.heap.size + 1) 23 #[.string ⟨#[]⟩, .string ⟨#[]⟩] := hW9 ▸ B1.store2 _ _
    have hbw9 : Below w.heap.size w W9 := hW9 ▸ hbw.store2 (by omega) _ _
    rw [← hW9]
    clear hW9
    have qc0 : W9.cell? ⟨w.heap.size + 1, 0, none⟩ = some (.string ⟨#[]⟩) := B9.cell 0
    have qc1 : W9.cell? ⟨w.heap.size + 1, 1, none⟩ = some (.string ⟨#[]⟩) := B9.cell 1
    refine bodyPost_ret (v := .tuple #[.agg #[.string ⟨#[]⟩, .string ⟨#[]⟩], .int .i64 2]) (by simp [results, Tryz.results26, go_sem, qc0, qc1]) rfl ⟨⟨_, _, _, rfl, by rw [HE.out]; rfl⟩, hbw9⟩
  have HE := Lib.hid (show outR q = (txtR q, 0) from if_neg (by unfold bigR; rw [← HS1.out, ← HS2.out]; omega))
  by_cases hneg : neg = true ∧ 0 < n3
  · obtain ⟨rfl, hn3⟩ := hneg
    have HLT := Lib.hid (show q.num < 0 from HL3.out.2 ⟨rfl, HPX.out.1 (HN3.out.1 hn3)⟩)
    have HNU := Lib.hid (show numS q = ((⟨#[45]⟩ : ByteArray) ++ tn).data.toList by
      unfold numS
      rw [if_pos HLT.out, ByteArray.data_append, Array.toList_append, HTN.out, HL1.out])
    go_upto_region 9 with (fail)
    obtain ⟨W7, hW7⟩ : ∃ W7, W7 = W6.setCell ⟨w5.heap.size, 0, none⟩ (.string (⟨#[45]⟩ ++ tn)) := ⟨_, rfl⟩
    have B1 : Blk W7 (w.heap.size + 1) 23 #[.string ⟨#[]⟩, .string ⟨#[]⟩] := hW7 ▸ B1.far (p := ⟨w5.heap.size, 0, none⟩) (by show w.heap.size + 1 ≠ w5.heap.size; omega) _
    have B2 : Blk W7 w5.heap.size 23 #[.string (⟨#[45]⟩ ++ tn), .string td] := hW7 ▸ B2.set_ 0 _
    have hbw : Below w.heap.size w W7 := hW7 ▸ hbw.setCell (p := ⟨w5.heap.size, 0, none⟩) (by show w.heap.size ≤ w5.heap.size; omega) _
    rw [← hW7]
    clear hW7 fc0 fc1 fc2 rc0 rz0 rc1 rz1 tc0 tz0 tc1 tz1
    obtain ⟨tm, htm⟩ : ∃ tm : ByteArray, tm = ⟨#[45]⟩ ++ tn := ⟨_, rfl⟩
    rw [← htm] at HNU B2 ⊢
    clear htm
    have rc0 : W7.cell? ⟨w.heap.size + 1, 0, none⟩ = some (.string ⟨#[]⟩) := B1.cell 0
    have rz0 : W7.frozen? ⟨w.heap.size + 1, 0, none⟩ = false := B1.frozen 0
    have rc1 : W7.cell? ⟨w.heap.size + 1, 1, none⟩ = some (.string ⟨#[]⟩) := B1.cell 1
    have rz1 : W7.frozen? ⟨w.heap.size + 1, 1, none⟩ = false := B1.frozen 1
    have tc0 : W7.cell? ⟨w5.heap.size, 0, none⟩ = some (.string tm) := B2.cell 0
    have tc1 : W7.cell? ⟨w5.heap.size, 1, none⟩ = some (.string td) := B2.cell 1
    go_wp2
    obtain ⟨W9, hW9⟩ : ∃ W9, W9 = (W7.setCell ⟨w.heap.size + 1, 0, none⟩ (.string tm)).setCell ⟨w.heap.size + 1, 1, none⟩ (.string td) := ⟨_, rfl⟩
    have B9 : Blk W9 (w.heap.size + 1) 23 #[.string tm, .string td] := hW9 ▸ B1.store2 _ _
    have hbw9 : Below w.heap.size w W9 := hW9 ▸ hbw.store2 (by omega) _ _
    rw [← hW9]
    clear hW9
    have qc0 : W9.cell? ⟨w.heap.size + 1, 0, none⟩ = some (.string tm) := B9.cell 0
    have qc1 : W9.cell? ⟨w.heap.size + 1, 1, none⟩ = some (.string td) := B9.cell 1
    refine bodyPost_ret (v := .tuple #[.agg #[.string tm, .string td], .int .i64 0]) (by simp [results, Tryz.results26, go_sem, qc0, qc1]) rfl ⟨⟨_, _, _, rfl, by rw [HE.out]; exact outV_out HNU.out HDN.out rfl⟩, hbw9⟩
  · have HLT := Lib.hid (show ¬ q.num < 0 from fun h => hneg ⟨(HL3.out.1 h).1, HN3.out.2 (HPX.out.2 (HL3.out.1 h).2)⟩)
    have HNU := Lib.hid (show numS q = tn.data.toList by
      unfold numS
      rw [if_neg HLT.out, List.nil_append, HTN.out, HL1.out])
    have hcc : neg = false ∨ (neg = true ∧ n3 = 0) := by
      cases neg
      · exact .inl rfl
      · refine .inr ⟨rfl, ?_⟩
        rcases Nat.eq_zero_or_pos n3 with h | h
        · exact h
        · exact absurd ⟨rfl, h⟩ hneg
    clear hneg
    rcases hcc with rfl | ⟨rfl, rfl⟩
    · go_wp2
      obtain ⟨W9, hW9⟩ : ∃ W9, W9 = (W6.setCell ⟨w.heap.size + 1, 0, none⟩ (.string tn)).setCell ⟨w.heap.size + 1, 1, none⟩ (.string td) := ⟨_, rfl⟩
      have B9 : Blk W9 (w.heap.size + 1) 23 #[.string tn, .string td] := hW9 ▸ B1.store2 _ _
      have hbw9 : Below w.heap.size w W9 := hW9 ▸ hbw.store2 (by omega) _ _
      rw [← hW9]
      clear hW9
      have qc0 : W9.cell? ⟨w.heap.size + 1, 0, none⟩ = some (.string tn) := B9.cell 0
      have qc1 : W9.cell? ⟨w.heap.size + 1, 1, none⟩ = some (.string td) := B9.cell 1
      refine bodyPost_ret (v := .tuple #[.agg #[.string tn, .string td], .int .i64 0]) (by simp [results, Tryz.results26, go_sem, qc0, qc1]) rfl ⟨⟨_, _, _, rfl, by rw [HE.out]; exact outV_out HNU.out HDN.out rfl⟩, hbw9⟩
    · go_wp2
      obtain ⟨W9, hW9⟩ : ∃ W9, W9 = (W6.setCell ⟨w.heap.size + 1, 0, none⟩ (.string tn)).setCell ⟨w.heap.size + 1, 1, none⟩ (.string td) := ⟨_, rfl⟩
      have B9 : Blk W9 (w.heap.size + 1) 23 #[.string tn, .string td] := hW9 ▸ B1.store2 _ _
      have hbw9 : Below w.heap.size w W9 := hW9 ▸ hbw.store2 (by omega) _ _
      rw [← hW9]
      clear hW9
      have qc0 : W9.cell? ⟨w.heap.size + 1, 0, none⟩ = some (.string tn) := B9.cell 0
      have qc1 : W9.cell? ⟨w.heap.size + 1, 1, none⟩ = some (.string td) := B9.cell 1
      refine bodyPost_ret (v := .tuple #[.agg #[.string tn, .string td], .int .i64 0]) (by simp [results, Tryz.results26, go_sem, qc0, qc1]) rfl ⟨⟨_, _, _, rfl, by rw [HE.out]; exact outV_out HNU.out HDN.out rfl⟩, hbw9⟩

end Go.Proofs.YtmpelpmhbadjoaaGreatDoor
