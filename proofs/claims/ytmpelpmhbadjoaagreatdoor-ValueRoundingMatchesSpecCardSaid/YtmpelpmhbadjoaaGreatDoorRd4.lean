/- The reference's Decimal: the text of a rounded ratio. -/
import Derived.Test.YtmpelpmhbadjoaaGreatDoorRd3
namespace Go.Proofs.YtmpelpmhbadjoaaGreatDoor
open Go.RowKit Limb Dig Rtx

theorem outV_parts (p : R × Nat) : ∃ S1 S2 : ByteArray, ∃ k : Nat, p.2 = k ∧ outV p = .tuple #[.agg #[.string S1, .string S2], .int .i64 (k : Nat)] := ⟨⟨p.1.n.toArray⟩, ⟨p.1.d.toArray⟩, p.2, rfl, rfl⟩
theorem dec_no {a : R} {p : Int} {k : Nat} (h : (roundR a p).2 = k) (hk : k ≠ 0) : decR a p = ([], k) := by
  by_cases h0 : rndF a p = 0
  · rw [roundR_ok h0] at h
    by_cases hb : bigR (rndQ a p.toNat)
    · rw [decR_big h0 hb, ← h, (outR_code _).1 hb]
    · rw [(outR_code _).2 hb] at h
      exact absurd h.symm hk
  · rw [roundR_no h0] at h
    rw [decR_flt h0, ← h]
theorem dec_yes {a : R} {p : Int} (h : (roundR a p).2 = 0) : rndF a p = 0 ∧ decR a p = (decT (negS a p.toNat) (scaleR a p.toNat) p.toNat, 0) := by
  by_cases h0 : rndF a p = 0
  · rw [roundR_ok h0] at h
    by_cases hb : bigR (rndQ a p.toNat)
    · rw [(outR_code _).1 hb] at h; cases h
    · exact ⟨h0, decR_ok h0 hb⟩
  · rw [roundR_no h0] at h
    exact absurd h h0
set_option maxHeartbeats 4000000 in
set_option maxRecDepth 100000 in
theorem rDecimal_any (n d : ByteArray) (p : Int) (w : World) (hn : n.size ≤ maxLen) (hd : d.size ≤ maxLen) (htab : Tab w) :
    Calls Tryz.prog 20 #[.agg #[.string n, .string d], .int .i64 p] w fun e w' => e = .returned (decV (decR (rx n d) p)) ∧ Below w.heap.size w w' := by
  have HT := Lib.hid htab
  clear htab
  go_enter Tryz.func20, Tryz.ntmps20
  go_wp2_with fail
  obtain ⟨W, hW⟩ : ∃ W, W = (w.alloc (.cells #[.string n, .string d] 23 (0, 0))) := ⟨_, rfl⟩
  have hbw : Below w.heap.size w W := by rw [hW]; exact ((Below.refl _ w).alloc (Nat.le_refl _) _)
  have B0 : Blk W (w.heap.size) 23 #[.string n, .string d] := by
    rw [hW]
    have := Blk.new w 23 #[.string n, .string d]
    exact this
  have hsz : W.heap.size = w.heap.size + 1 := by rw [hW]; simp
  rw [← hW]
  clear hW
  refine (rRounded_any n d p W hn hd (HT.out.below hbw)).mono ?_
  obtain ⟨S1, S2, f, hf, hv⟩ := outV_parts (roundR (rx n d) p)
  rw [hv]
  clear hv
  have HF := Lib.hid hf
  clear hf
  rintro e w1 ⟨rfl, hb1⟩
  have hbw := hbw.trans (hb1.mono hbw.size)
  have B0 := B0.below hb1 B0.lt
  have hs1 := hb1.size
  clear hb1
  go_upto_region 2 with (fail)
  obtain ⟨W2, hW2⟩ : ∃ W2, W2 = w1.alloc (.cells #[.string S1, .string S2] 23 (0, 0)) := ⟨_, rfl⟩
  have hb2 : Below w1.heap.size w1 W2 := hW2 ▸ (Below.refl _ w1).alloc (Nat.le_refl _) _
  rw [← hW2]
  clear hW2
  have B0 := B0.below hb2 B0.lt
  have hbw := hbw.trans (hb2.mono hbw.size)
  clear hb2
  by_cases h0 : f = 0
  rotate_left
  · have hne : (((f : Nat) : Int) != 0) = true := by simp; omega
    have HE := Lib.hid (dec_no HF.out h0)
    go_wp2
    go_ret2
    exact ⟨ret_val (decV_of (by rw [HE.out]) (by rw [HE.out])), hbw⟩
  subst h0
  obtain ⟨hr0, he⟩ := dec_yes HF.out
  have HE := Lib.hid he
  have HFL := Lib.hid (rnd_flt hr0)
  obtain ⟨hp1, hp2⟩ := rnd_range hr0
  clear he hr0
  have fc0 : W2.cell? ⟨w.heap.size, 0, none⟩ = some (.string n) := B0.cell 0
  have fc1 : W2.cell? ⟨w.heap.size, 1, none⟩ = some (.string d) := B0.cell 1
  go_wp2_with fail
  refine (rnearest_any n d p W2 HFL.out hp1 hp2).mono ?_
  rintro e w2 ⟨⟨bu, A1, n1, c1, A2, n2, c2, rfl, e1, g1⟩, hb2⟩
  have HE1 := Lib.hid e1
  obtain ⟨x, hx⟩ : ∃ x, scaleR (rx n d) p.toNat = x := ⟨_, rfl⟩
  have HX := Lib.hid hx
  rw [hx] at g1
  have HG := Lib.hid g1
  have hbw := hbw.trans (hb2.mono hbw.size)
  clear g1 e1 hb2 fc0 fc1 B0 hx
  go_upto_region 5 with (fail)
  obtain ⟨W3, hW3⟩ : ∃ W3, W3 = w2.alloc (.cells #[.bool bu, .slice A1 n1 c1, .slice A2 n2 c2] 53 (0, 0)) := ⟨_, rfl⟩
  have hb2 : Below w2.heap.size w2 W3 := hW3 ▸ (Below.refl _ w2).alloc (Nat.le_refl _) _
  have B3 : Blk W3 w2.heap.size 53 #[.bool bu, .slice A1 n1 c1, .slice A2 n2 c2] := by
    rw [hW3]
    exact Blk.new w2 53 _
  rw [← hW3]
  clear hW3
  have HG := Lib.hid (HG.out.below hb2)
  have hbw := hbw.trans (hb2.mono hbw.size)
  clear hb2
  have uc0 : W3.cell? ⟨w2.heap.size, 0, none⟩ = some (.bool bu) := B3.cell 0
  have uc1 : W3.cell? ⟨w2.heap.size, 1, none⟩ = some (.slice A1 n1 c1) := B3.cell 1
  have uc2 : W3.cell? ⟨w2.heap.size, 2, none⟩ = some (.slice A2 n2 c2) := B3.cell 2
  go_wp2_with fail
  refine (text_any 300 x _ W3 HG.out (by omega) (HT.out.below hbw)).mono ?_
  rintro e w7 ⟨rfl, hb7⟩
  obtain ⟨t0, ht0⟩ : ∃ t : ByteArray, t = ⟨(decS x).toArray⟩ := ⟨_, rfl⟩
  obtain ⟨L, hL⟩ : ∃ L, (decS x).length = L := ⟨_, rfl⟩
  have HT0 := Lib.hid (show t0.data.toList = decS x by rw [ht0])
  have hL1 : L ≤ 3000 := by have := HG.out.dlen; omega
  have hL0 : 1 ≤ L := by
    rcases Nat.eq_zero_or_pos L with h | h
    · rw [h] at hL; exact absurd (List.eq_nil_of_length_eq_zero hL) (decS_sound x).2.1
    · exact h
  have hsz0 : t0.size = L := by rw [← hL, ht0]; rfl
  have hsz1 : t0.size ≤ L := by omega
  have hsz2 : L ≤ t0.size := by omega
  rw [← ht0]
  have HL := Lib.hid hL
  have B3 := B3.below hb7 B3.lt
  have hbw := hbw.trans (hb7.mono hbw.size)
  clear ht0 hL hb7 uc0 uc1 uc2 HG HT hsz0
  have uc0 : w7.cell? ⟨w2.heap.size, 0, none⟩ = some (.bool bu) := B3.cell 0
  have uc1 : w7.cell? ⟨w2.heap.size, 1, none⟩ = some (.slice A1 n1 c1) := B3.cell 1
  have uc2 : w7.cell? ⟨w2.heap.size, 2, none⟩ = some (.slice A2 n2 c2) := B3.cell 2
  by_cases hp0 : 0 < p
  · have HC := Lib.hid (show 0 ≤ max (p + 1 - (t0.size : Int)) 0 ∧ max (p + 1 - (t0.size : Int)) 0 ≤ 20 ∧ (max (p + 1 - (t0.size : Int)) 0).toNat = p.toNat + 1 - L by
      have h := Int.toNat_of_nonneg hp1
      generalize p.toNat = P at h ⊢
      omega)
    go_wp2_with fail
    refine (repeat0_i _ _ HC.out.1 HC.out.2.1).mono ?_
    rintro e w8 ⟨⟨t1, rfl, ht1⟩, hb8⟩
    rw [HC.out.2.2] at ht1
    have hts : t1.size ≤ 21 := by rw [zeros_size ht1]; have h := Int.toNat_of_nonneg hp1; omega
    have HT1 := Lib.hid ht1
    have B3 := B3.below hb8 B3.lt
    have hbw := hbw.trans (hb8.mono hbw.size)
    clear ht1 hb8 uc0 uc1 uc2
    go_upto_region 8 with (fail)
    obtain ⟨t, ht⟩ : ∃ t : ByteArray, t1 ++ t0 = t := ⟨_, rfl⟩
    have HTP := Lib.hid (show t.data.toList = padT x p.toNat by
      rw [← ht, toList_app, HT1.out, HT0.out]
      unfold padT
      rw [HL.out])
    have hb0 : p ≤ t.size := by
      rw [pad_size HTP.out]
      have h := Int.toNat_of_nonneg hp1
      omega
    have hb3 : t.size ≤ 8000 := by rw [← ht, ByteArray.size_append]; omega
    rw [ht]
    clear ht HC HT1 HT0
    have hb1 : (0 : Int) ≤ (t.size : Int) - p := by omega
    have hb2 : (t.size : Int) - p ≤ t.size := by omega
    go_quiet (fail)
    obtain ⟨t2, ht2⟩ : ∃ t2, t.extract 0 ((t.size : Int) - p).toNat ++ (⟨#[46]⟩ : ByteArray) ++ t.extract ((t.size : Int) - p).toNat t.size = t2 := ⟨_, rfl⟩
    have HT2 := Lib.hid (show t2.data.toList = putT (padT x p.toNat) p.toNat by
      rw [← ht2, show ((t.size : Int) - p).toNat = t.size - p.toNat by omega, put_pos (by omega), ← HTP.out]
      exact put_str (by omega))
    have hb4 : t2.size ≤ 9000 := by
      rw [← ht2, ByteArray.size_append, ByteArray.size_append, ByteArray.size_extract, ByteArray.size_extract]
      show _ + 1 + _ ≤ _
      omega
    rw [ht2]
    clear ht2
    have uc0 : (w8.drewN nq).cell? ⟨w2.heap.size, 0, none⟩ = some (.bool bu) := B3.cell 0
    cases bu
    · go_wp2
      go_ret2
      exact ⟨ret_val (decV_of (by rw [HE.out]; exact HT2.out.trans (by unfold decT; rw [← HE1.out]; simp [HX.out])) (by rw [HE.out])), hbw.drewN _⟩
    · go_wp2
      go_ret2
      exact ⟨ret_val (decV_of (by rw [HE.out, toList_app]; show _ = decT _ _ _; unfold decT; rw [← HE1.out, HT2.out, HX.out]; rfl) (by rw [HE.out])), hbw.drewN _⟩
  · have hp00 : p.toNat = 0 := by omega
    have HT2 := Lib.hid (show t0.data.toList = putT (padT x p.toNat) p.toNat by
      rw [put_zero hp00, HT0.out]
      unfold padT
      rw [HL.out, hp00, show 0 + 1 - L = 0 by omega]
      rfl)
    clear hp00
    cases bu
    · go_wp2
      go_ret2
      exact ⟨ret_val (decV_of (by rw [HE.out]; exact HT2.out.trans (by unfold decT; rw [← HE1.out]; simp [HX.out])) (by rw [HE.out])), hbw⟩
    · go_wp2
      go_ret2
      exact ⟨ret_val (decV_of (by rw [HE.out, toList_app]; show _ = decT _ _ _; unfold decT; rw [← HE1.out, HT2.out, HX.out]; rfl) (by rw [HE.out])), hbw⟩
end Go.Proofs.YtmpelpmhbadjoaaGreatDoor
