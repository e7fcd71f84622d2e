/- The reference's ratios: CheckRatio, open, shut. -/
import Derived.Test.YtmpelpmhbadjoaaGreatDoorRTx
import Derived.Test.YtmpelpmhbadjoaaGreatDoorInv
namespace Go.Proofs.YtmpelpmhbadjoaaGreatDoor
open Go.RowKit Limb Dig Rtx

theorem RepI.box {w : World} {L x : Nat} {v o : Value} {p : Addr} (h : RepI w L v x) (hp : w.cell? p = some o) (u : Value) (ho : ∀ z, o ≠ .int .i64 z := by intro z e; cases e) : RepI (w.setCell p u) L v x := by
  obtain ⟨l, A', c', h1, h2, h3, h4, h5, h6⟩ := h.ex
  refine ⟨l, A', c', h1, h2, h3, h4, ⟨h5.1, fun h0 => ?_⟩, h6⟩
  obtain ⟨ad, e, hb, hc⟩ := h5.2 h0
  refine ⟨ad, e, by simpa [World.setCell] using hb, fun k z hz => ?_⟩
  have hcz := hc k z hz
  rw [World.cell?_setCell_other w p (ad.add k) u (fun e' => ?_)]
  · exact hcz
  · obtain ⟨_, rfl⟩ := limI_get _ _ _ hz
    rw [e'] at hp
    rw [hp] at hcz
    exact ho _ (Option.some.inj hcz)
structure FracI (w : World) (L : Nat) (v : Value) (neg : Bool) (x y : Nat) : Prop where
  ex : ∃ A1 n1 c1 A2 n2 c2, v = .agg #[.bool neg, .slice A1 n1 c1, .slice A2 n2 c2] ∧ RepI w L (.slice A1 n1 c1) x ∧ RepI w L (.slice A2 n2 c2) y ∧ 0 < y
theorem FracI.below {w w' : World} {L x y : Nat} {v : Value} {neg : Bool} (h : FracI w L v neg x y) (hb : Below w.heap.size w w') : FracI w' L v neg x y := by
  obtain ⟨A1, n1, c1, A2, n2, c2, e, h1, h2, h3⟩ := h.ex
  exact ⟨A1, n1, c1, A2, n2, c2, e, h1.below hb, h2.below hb, h3⟩
theorem sl_formI {e : Ending} {w : World} {L x : Nat} (h : ∃ v, e = .returned v ∧ RepI w L v x) : ∃ A n c, e = .returned (.slice A n c) ∧ RepI w L (.slice A n c) x := by
  obtain ⟨v, he, hv⟩ := h
  obtain ⟨A, n, c, rfl, _⟩ := hv.form
  exact ⟨A, n, c, he, hv⟩
theorem number_yes (s : ByteArray) (w : World) (hs : s.size ≤ maxLen) (h : Sound s.data.toList) :
    Calls Tryz.prog 30 #[.string s] w fun e w' => e = .returned (.bool true) ∧ w = w' :=
  (number_any s w hs).mono fun _ _ ⟨⟨b, he, hb⟩, hw⟩ => ⟨by rw [he, hb.2 h], hw⟩
theorem number_no (s : ByteArray) (w : World) (hs : s.size ≤ maxLen) (h : ¬ Sound s.data.toList) :
    Calls Tryz.prog 30 #[.string s] w fun e w' => e = .returned (.bool false) ∧ w = w' :=
  (number_any s w hs).mono fun _ _ ⟨⟨b, he, hb⟩, hw⟩ => ⟨by rw [he]; cases b with | false => rfl | true => exact absurd (hb.1 rfl) h, hw⟩
theorem trim_dash (n nn : ByteArray) (w : World) (h : nn.data.toList = (cutN n.data.toList).1) :
    Calls Tryz.prog 29 #[.string n, .string ⟨#[45]⟩] w fun e w' => e = .returned (.string nn) ∧ w = w' :=
  (Tryz.strings_TrimPrefix n ⟨#[45]⟩ w).mono fun _ _ ⟨he, hw⟩ => ⟨by rw [he, show ((⟨#[45]⟩ : ByteArray)).data.toList = [45] from rfl, (cut_prefix n).1, ← h], hw.symm⟩
theorem has_dash (n : ByteArray) (w : World) :
    Calls Tryz.prog 68 #[.string n, .string ⟨#[45]⟩] w fun e w' => e = .returned (.bool (cutN n.data.toList).2) ∧ w = w' :=
  (Tryz.strings_HasPrefix n ⟨#[45]⟩ w).mono fun _ _ ⟨he, hw⟩ => ⟨by rw [he, show ((⟨#[45]⟩ : ByteArray)).data.toList = [45] from rfl, (cut_prefix n).2], hw.symm⟩
theorem cutN_len (l : List UInt8) : (cutN l).1.length ≤ l.length := by
  cases l with
  | nil => simp [cutN]
  | cons b t =>
    unfold cutN
    simp only
    split <;> simp
theorem dash_zero (l : List UInt8) : l = [45, 48] ↔ ((cutN l).2 = true ∧ (cutN l).1 = [48]) := by
  cases l with
  | nil => simp [cutN]
  | cons b t =>
    by_cases h : b = 45
    · subst h; simp [cutN]
    · simp [cutN, h]
/-- what the checks ahead of the common divisor say -/
structure PreR (n d : ByteArray) (nn : ByteArray) : Prop where
  e : nn.data.toList = (cutN n.data.toList).1
  small : nn.size ≤ 2000 ∧ d.size ≤ 2000
  s1 : Sound nn.data.toList
  s2 : Sound d.data.toList
  d0 : 0 < digVal d.data.toList
  g : (Nat.gcd (digVal nn.data.toList) (digVal d.data.toList) ≠ 1 → fltR (rx n d) = 3) ∧ (Nat.gcd (digVal nn.data.toList) (digVal d.data.toList) = 1 → fltR (rx n d) = 0)
theorem PreR.of_ok {n d : ByteArray} (h : fltR (rx n d) = 0) : PreR n d ⟨(cutN n.data.toList).1.toArray⟩ ∧ Nat.gcd (digVal (cutN n.data.toList).1) (digVal d.data.toList) = 1 := by
  unfold fltR at h
  split at h
  · cases h
  · rename_i h1
    split at h
    · cases h
    · rename_i h2
      split at h
      · cases h
      · rename_i h3
        have g1 : Sound (cutN n.data.toList).1 := Classical.byContradiction fun hx => h2 (.inl hx)
        have g2 : Sound d.data.toList := Classical.byContradiction fun hx => h2 (.inr (.inl hx))
        have g0 : Nat.gcd (digVal (cutN n.data.toList).1) (digVal d.data.toList) = 1 := Classical.byContradiction fun hx => h3 hx
        have hsm : ¬ 2000 < (cutN n.data.toList).1.length ∧ ¬ 2000 < d.data.toList.length := ⟨fun hx => h1 (.inl hx), fun hx => h1 (.inr hx)⟩
        refine ⟨⟨rfl, ⟨by show (cutN n.data.toList).1.length ≤ 2000; omega, by show d.data.toList.length ≤ 2000; omega⟩, g1, g2, ?_, ⟨fun hx => absurd g0 hx, fun _ => ?_⟩⟩, g0⟩
        · rcases Nat.eq_zero_or_pos (digVal d.data.toList) with hz | hz
          · exact absurd (.inr (.inr (.inl (sound_zero_of g2 hz)))) h2
          · exact hz
        · unfold fltR
          rw [if_neg h1, if_neg h2, if_neg h3]
theorem text_q (L G : Nat) (v : Value) (w : World) (h : RepI w L v G) (hL : L ≤ 100000) (htab : Tab w) :
    Calls Tryz.prog 33 #[v] w fun e w' => (∃ t : ByteArray, e = .returned (.string t) ∧ t.data.toList = decS G) ∧ Below w.heap.size w w' :=
  (text_any L G v w h hL htab).mono fun _ _ ⟨he, hb⟩ => ⟨⟨_, he, rfl⟩, hb⟩
theorem decS_one {G : Nat} : decS G = [49] ↔ G = 1 := by
  have h1 : decS 1 = [49] := (decS_of (l := [1]) (by intro x hx; simp at hx; omega) (by intro h; simp) rfl).symm.trans (by decide +kernel)
  exact ⟨fun h => decS_inj (h.trans h1.symm), fun h => h ▸ h1⟩
set_option maxHeartbeats 4000000 in
set_option maxRecDepth 100000 in
theorem rcheck_any (n d : ByteArray) (w : World) (hn : n.size ≤ maxLen) (hd : d.size ≤ maxLen) (htab : Tab w) :
    Calls Tryz.prog 8 #[.agg #[.string n, .string d]] w fun e w' => e = .returned (.int .i64 (fltR (rx n d) : Nat)) ∧ Below w.heap.size w w' := by
  obtain ⟨nn, hnn⟩ : ∃ nn : ByteArray, nn = ⟨(cutN n.data.toList).1.toArray⟩ := ⟨_, rfl⟩
  have HNN := Lib.hid (show nn.data.toList = (cutN n.data.toList).1 by rw [hnn])
  have HSN := Lib.hid (show nn.size = (cutN n.data.toList).1.length from dsize HNN.out)
  have HT := Lib.hid htab
  clear hnn htab
  have hnl : nn.size ≤ maxLen := by
    have h1 := HSN.out
    have h2 := cutN_len n.data.toList
    have : n.data.toList.length = n.size := rfl
    omega
  have HTD := Lib.hid (fun w' => trim_dash n nn w' HNN.out)
  go_enter Tryz.func8, Tryz.ntmps8
  go_wp2_with fail
  refine (HTD.out _).mono ?_
  rintro e w0 ⟨rfl, rfl⟩
  by_cases h1 : 2000 < nn.size
  · have h2 : d.size ≤ 2000 ∨ 2000 < d.size := by omega
    have HF := Lib.hid (show fltR (rx n d) = 2 from if_pos (.inl (by show 2000 < (cutN n.data.toList).1.length; rw [← HSN.out]; exact h1)))
    go_wp2
    go_ret
    exact ⟨ret_val (by rw [HF.out]; rfl), (Below.refl _ _).alloc (Nat.le_refl _) _⟩
  by_cases h2 : 2000 < d.size
  · have HF := Lib.hid (show fltR (rx n d) = 2 from if_pos (.inr h2))
    go_wp2
    go_ret
    exact ⟨ret_val (by rw [HF.out]; rfl), (Below.refl _ _).alloc (Nat.le_refl _) _⟩
  have HB := Lib.hid (show ¬ (2000 < (cutN (rx n d).n).1.length ∨ 2000 < (rx n d).d.length) by
    rintro (h | h)
    · exact h1 (by rw [HSN.out]; exact h)
    · exact h2 h)
  by_cases hs1 : Sound nn.data.toList
  rotate_left
  · have HD1 := Lib.hid (number_no nn · hnl hs1)
    have HD2 := HD1
    have HF := Lib.hid (show fltR (rx n d) = 3 from by unfold fltR; rw [if_neg HB.out, if_pos (.inl (by show ¬ Sound (cutN n.data.toList).1; rw [← HNN.out]; exact hs1))])
    go_wp2_with (go_at_call 30; (first | (with_reducible refine (HD1.out _).mono ?_) | (with_reducible refine (HD2.out _).mono ?_)); rintro e w2 ⟨rfl, rfl⟩)
    go_ret
    exact ⟨ret_val (by rw [HF.out]; rfl), (Below.refl _ _).alloc (Nat.le_refl _) _⟩
  have HD1 := Lib.hid (number_yes nn · hnl hs1)
  have HS1 := Lib.hid hs1
  clear hs1
  by_cases hz : n.data.toList = [45, 48]
  · have ez : (n.toList == [45, 48]) = true := by rw [ByteArray.toList_eq, hz]; rfl
    have HZ := Lib.hid ((dash_zero _).1 hz)
    have HD2 := HD1
    clear hz
    have HF := Lib.hid (show fltR (rx n d) = 3 from by unfold fltR; rw [if_neg HB.out, if_pos (.inr (.inr (.inr HZ.out)))])
    go_wp2_with (go_at_call 30; (first | (with_reducible refine (HD1.out _).mono ?_) | (with_reducible refine (HD2.out _).mono ?_)); rintro e w2 ⟨rfl, rfl⟩)
    go_ret
    exact ⟨ret_val (by rw [HF.out]; rfl), (Below.refl _ _).alloc (Nat.le_refl _) _⟩
  have ez : (n.toList == [45, 48]) = false := by rw [ByteArray.toList_eq, beq_eq_false_iff_ne]; exact hz
  have HZ := Lib.hid (fun h => hz ((dash_zero _).2 h))
  clear hz
  by_cases hs2 : Sound d.data.toList
  rotate_left
  · have HD2 := Lib.hid (number_no d · hd hs2)
    have HF := Lib.hid (show fltR (rx n d) = 3 from by unfold fltR; rw [if_neg HB.out, if_pos (.inr (.inl hs2))])
    go_wp2_with (go_at_call 30; (first | (with_reducible refine (HD1.out _).mono ?_) | (with_reducible refine (HD2.out _).mono ?_)); rintro e w2 ⟨rfl, rfl⟩)
    go_ret
    exact ⟨ret_val (by rw [HF.out]; rfl), (Below.refl _ _).alloc (Nat.le_refl _) _⟩
  have HD2 := Lib.hid (number_yes d · hd hs2)
  have HS2 := Lib.hid hs2
  clear hs2
  by_cases hd0 : d.data.toList = [48]
  · have e0 : (d.toList == [48]) = true := by rw [ByteArray.toList_eq, hd0]; rfl
    have HD0 := Lib.hid hd0
    clear hd0
    have HF := Lib.hid (show fltR (rx n d) = 3 from by unfold fltR; rw [if_neg HB.out, if_pos (.inr (.inr (.inl HD0.out)))])
    go_wp2_with (go_at_call 30; (first | (with_reducible refine (HD1.out _).mono ?_) | (with_reducible refine (HD2.out _).mono ?_)); rintro e w2 ⟨rfl, rfl⟩)
    go_ret
    exact ⟨ret_val (by rw [HF.out]; rfl), (Below.refl _ _).alloc (Nat.le_refl _) _⟩
  have e0 : (d.toList == [48]) = false := by rw [ByteArray.toList_eq, beq_eq_false_iff_ne]; exact hd0
  have HD0 := Lib.hid hd0
  clear hd0
  have HG := Lib.hid (show (Nat.gcd (digVal nn.data.toList) (digVal d.data.toList) ≠ 1 → fltR (rx n d) = 3) ∧ (Nat.gcd (digVal nn.data.toList) (digVal d.data.toList) = 1 → fltR (rx n d) = 0) by
    unfold fltR
    rw [if_neg HB.out, if_neg, HNN.out]
    · exact ⟨fun h => if_pos h, fun h => if_neg (fun h' => h' h)⟩
    · rintro (h | h | h | h)
      · exact h (by show Sound (cutN n.data.toList).1; rw [← HNN.out]; exact HS1.out)
      · exact h HS2.out
      · exact HD0.out h
      · exact HZ.out h)
  have h1' : nn.size ≤ 2000 := by omega
  have h2' : d.size ≤ 2000 := by omega
  go_upto_region 6 with (go_at_call 30; (first | (with_reducible refine (HD1.out _).mono ?_) | (with_reducible refine (HD2.out _).mono ?_)); rintro e w2 ⟨rfl, rfl⟩)
  obtain ⟨W, hW⟩ : ∃ W, W = w.alloc (.cells #[.string n, .string d] 23 (0, 0)) := ⟨_, rfl⟩
  have hbw : Below w.heap.size w W := hW ▸ (Below.refl _ w).alloc (Nat.le_refl _) _
  have B0 : Blk W w.heap.size 23 #[.string n, .string d] := hW ▸ Blk.new _ _ _
  rw [← hW]
  clear hW
  have c1 : W.cell? ⟨w.heap.size, 1, none⟩ = some (.string d) := B0.cell 1
  have K1 := Lib.hid (K_of (fun w' (hb : Below W.heap.size W w') => (read_any nn w' (by omega) HS1.out.1).mono fun _ _ ⟨h, hb⟩ => ⟨sl_formI h, hb⟩))
  have K2 := Lib.hid (K_of (fun w' (hb : Below W.heap.size W w') => (read_any d w' (by omega) HS2.out.1).mono fun _ _ ⟨h, hb⟩ => ⟨sl_formI h, hb⟩))
  have hq0 : Below W.heap.size W W.drew := (Below.refl _ _).drew
  have HTW := Lib.hid (HT.out.below hbw)
  obtain ⟨G, hG⟩ : ∃ G, Nat.gcd (digVal nn.data.toList) (digVal d.data.toList) = G := ⟨_, rfl⟩
  rw [hG] at HG
  have HGE := Lib.hid hG
  clear hG
  go_region_held3 (fun w' => w'.cell? ⟨w.heap.size, 1, none⟩ = some (.string d) ∧ Below w.heap.size w w')
    (first | exact ⟨Below.cell_of hq4 c1, hbw.trans (hq4.mono hbw.size)⟩ | exact ⟨Below.cell_of hq3 c1, hbw.trans (hq3.mono hbw.size)⟩ | exact ⟨Below.cell_of hq2 c1, hbw.trans (hq2.mono hbw.size)⟩ | exact ⟨Below.cell_of hq1 c1, hbw.trans (hq1.mono hbw.size)⟩ | exact ⟨Below.cell_of hq0 c1, hbw.trans (hq0.mono hbw.size)⟩)
    (first
      | (go_at_call 32; (with_reducible refine (K1.out _ (by assumption)).mono ?_); rintro e w' ⟨⟨Ap, np, cp, rfl, hp⟩, hq1, hb1⟩)
      | (go_at_call 32; (with_reducible refine (K2.out _ (by assumption)).mono ?_); rintro e w' ⟨⟨Aq, nq, cq, rfl, hq⟩, hq2, hb2⟩)
      | (go_at_call 31; refine (rcommon_rep _ 223 _ _ _ _ ((hp.mono (by omega)).below hb2) (hq.mono (by omega)) (by omega)).mono ?_; rintro e w' ⟨⟨vg, rfl, hvg⟩, hb3⟩; have hq3 := hq2.trans (hb3.mono hq2.size); rw [HGE.out] at hvg)
      | (go_at_call 33; refine (text_q 223 G _ _ hvg (by omega) (HTW.out.below hq3)).mono ?_; rintro e w' ⟨⟨tg, rfl, htg⟩, hb4⟩; have hq4 := hq3.trans (hb4.mono hq3.size); have HTG := Lib.hid htg; clear htg))
  all_goals
    have hbw4 := hbw.trans (hq4.mono hbw.size)
    by_cases hG1 : G = 1
    · have et : (tg.toList == [49]) = true := by rw [ByteArray.toList_eq, HTG.out, decS_one.2 hG1]; rfl
      have HF := Lib.hid (HG.out.2 hG1)
      clear hp hq hvg
      rw [et, Bool.not_true]
      go_wp2
      go_ret
      exact ⟨ret_val (by rw [HF.out]; rfl), hbw4⟩
    · have et : (tg.toList == [49]) = false := by rw [ByteArray.toList_eq, HTG.out, beq_eq_false_iff_ne]; exact fun h => hG1 (decS_one.1 h)
      have HF := Lib.hid (HG.out.1 hG1)
      clear hp hq hvg
      rw [et, Bool.not_false]
      go_wp2
      go_ret
      exact ⟨ret_val (by rw [HF.out]; rfl), hbw4⟩
set_option maxHeartbeats 4000000 in
set_option maxRecDepth 100000 in
theorem open_any (n d : ByteArray) (w : World) (hok : fltR (rx n d) = 0) :
    Calls Tryz.prog 37 #[.agg #[.string n, .string d]] w fun e w' => (∃ v, e = .returned v ∧ FracI w' 223 v (cutN n.data.toList).2 (digVal (cutN n.data.toList).1) (digVal d.data.toList)) ∧ Below w.heap.size w w' := by
  obtain ⟨HP0, HG1⟩ := PreR.of_ok hok
  obtain ⟨nn, hnn⟩ : ∃ nn : ByteArray, nn = ⟨(cutN n.data.toList).1.toArray⟩ := ⟨_, rfl⟩
  rw [← hnn] at HP0
  have HP := Lib.hid HP0
  have HNN := Lib.hid (show nn.data.toList = (cutN n.data.toList).1 by rw [hnn])
  obtain ⟨ng, hng⟩ : ∃ ng, (cutN n.data.toList).2 = ng := ⟨_, rfl⟩
  have h1 := HP0.small.1
  have h2 := HP0.small.2
  have HTD := Lib.hid (fun w' => trim_dash n nn w' HNN.out)
  have HHD := Lib.hid (fun w' => hng ▸ has_dash n w')
  rw [hng]
  have HNG := Lib.hid hng
  clear HP0 HG1 hok hnn hng
  go_enter Tryz.func37, Tryz.ntmps37
  go_upto_region 1 with (fail)
  obtain ⟨W, hW⟩ : ∃ W, W = (w.alloc (.cells #[.string n, .string d] 23 (0, 0))).alloc (.cells #[.bool false, .slice none 0 0, .slice none 0 0] 53 (0, 0)) := ⟨_, rfl⟩
  have hbw : Below w.heap.size w W := hW ▸ ((Below.refl _ w).alloc (Nat.le_refl _) _).alloc (by simp) _
  have B0 : Blk W w.heap.size 23 #[.string n, .string d] := hW ▸ (Blk.new w 23 #[.string n, .string d]).alloc _
  have B1 : Blk W (w.heap.size + 1) 53 #[.bool false, .slice none 0 0, .slice none 0 0] := by
    rw [hW]
    have := Blk.new (w.alloc (.cells #[.string n, .string d] 23 (0, 0))) 53 #[.bool false, .slice none 0 0, .slice none 0 0]
    rwa [World.size_alloc] at this
  rw [← hW]
  clear hW
  have s0 : W.cell? ⟨w.heap.size, 0, none⟩ = some (.string n) := B0.cell 0
  have s1 : W.cell? ⟨w.heap.size, 1, none⟩ = some (.string d) := B0.cell 1
  have K1 := Lib.hid (K_of (fun w' (hb : Below W.heap.size W w') => (read_any nn w' (by omega) HP.out.s1.1).mono fun _ _ ⟨h, hb⟩ => ⟨sl_formI h, hb⟩))
  have K2 := Lib.hid (K_of (fun w' (hb : Below W.heap.size W w') => (read_any d w' (by omega) HP.out.s2.1).mono fun _ _ ⟨h, hb⟩ => ⟨sl_formI h, hb⟩))
  have hq0 : Below W.heap.size W W.drew := (Below.refl _ _).drew
  go_region_held3 (fun w' => w'.cell? ⟨w.heap.size, 0, none⟩ = some (.string n) ∧ w'.cell? ⟨w.heap.size, 1, none⟩ = some (.string d) ∧ Below w.heap.size w w')
    (first | exact ⟨Below.cell_of hq2 s0, Below.cell_of hq2 s1, hbw.trans (hq2.mono hbw.size)⟩ | exact ⟨Below.cell_of hq1 s0, Below.cell_of hq1 s1, hbw.trans (hq1.mono hbw.size)⟩ | exact ⟨Below.cell_of hq0 s0, Below.cell_of hq0 s1, hbw.trans (hq0.mono hbw.size)⟩ | exact ⟨(C0.far3 (by omega) _ _ _).cell 0, (C0.far3 (by omega) _ _ _).cell 1, (hbw.trans (hq2.mono hbw.size)).store3 (by omega) _ _ _⟩)
    (first
      | (go_at_call 68; (with_reducible refine (HHD.out _).mono ?_); rintro e w' ⟨rfl, rfl⟩)
      | (go_at_call 29; (with_reducible refine (HTD.out _).mono ?_); rintro e w' ⟨rfl, rfl⟩)
      | (go_at_call 32; (with_reducible refine (K1.out _ (by assumption)).mono ?_); rintro e w' ⟨⟨Ap, np, cp, rfl, hp⟩, hq1, hb1⟩)
      | (go_at_call 32; (with_reducible refine (K2.out _ (by assumption)).mono ?_); rintro e w' ⟨⟨Aq, nq, cq, rfl, hq⟩, hq2, hb2⟩; have C0 := B0.below hq2 B0.lt; have C1 := B1.below hq2 B1.lt; have rc0 := C1.cell 0; have rc1 := C1.cell 1; have rc2 := C1.cell 2; have rz0 := C1.frozen 0; have rz1 := C1.frozen 1; have rz2 := C1.frozen 2))
  all_goals
    have hbw2 := hbw.trans (hq2.mono hbw.size)
    have HPQ := Lib.hid ((hp.mono (show nn.size / 9 + 1 ≤ 223 by omega)).below hb2)
    have HQQ := Lib.hid (hq.mono (show d.size / 9 + 1 ≤ 223 by omega))
    clear hp hq
    go_wp2_with (fail)
    obtain ⟨W9, hW9⟩ : ∃ W9, W9 = ((w'.setCell ⟨w.heap.size + 1, 0, none⟩ (.bool ng)).setCell ⟨w.heap.size + 1, 1, none⟩ (.slice Ap np cp)).setCell ⟨w.heap.size + 1, 2, none⟩ (.slice Aq nq cq) := ⟨_, rfl⟩
    have HPQ := Lib.hid (hW9 ▸ ((HPQ.out.box rc0 (.bool ng)).box ((C1.set_ 0 _).cell 1) (.slice Ap np cp)).box (((C1.set_ 0 _).set_ 1 _).cell 2) (.slice Aq nq cq) : RepI W9 223 (.slice Ap np cp) _)
    have HQQ := Lib.hid (hW9 ▸ ((HQQ.out.box rc0 (.bool ng)).box ((C1.set_ 0 _).cell 1) (.slice Ap np cp)).box (((C1.set_ 0 _).set_ 1 _).cell 2) (.slice Aq nq cq) : RepI W9 223 (.slice Aq nq cq) _)
    have B9 : Blk W9 (w.heap.size + 1) 53 #[.bool ng, .slice Ap np cp, .slice Aq nq cq] := hW9 ▸ C1.store3 _ _ _
    have hbw9 : Below w.heap.size w W9 := hW9 ▸ hbw2.store3 (by omega) _ _ _
    first | rw [← hW9] | skip
    clear hW9
    have qc0 : W9.cell? ⟨w.heap.size + 1, 0, none⟩ = some (.bool ng) := B9.cell 0
    have qc1 : W9.cell? ⟨w.heap.size + 1, 1, none⟩ = some (.slice Ap np cp) := B9.cell 1
    have qc2 : W9.cell? ⟨w.heap.size + 1, 2, none⟩ = some (.slice Aq nq cq) := B9.cell 2
    refine bodyPost_ret (v := .agg #[.bool ng, .slice Ap np cp, .slice Aq nq cq]) (by simp [results, Tryz.results37, go_sem, qc0, qc1, qc2]) rfl ⟨⟨_, rfl, ⟨_, _, _, _, _, _, rfl, HNN.out ▸ HPQ.out, HQQ.out, HP.out.d0⟩⟩, hbw9⟩
end Go.Proofs.YtmpelpmhbadjoaaGreatDoor
