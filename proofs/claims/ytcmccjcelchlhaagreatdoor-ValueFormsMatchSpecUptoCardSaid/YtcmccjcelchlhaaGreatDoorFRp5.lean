/- The walks of the reference's write, the operations. -/
import Derived.Test.YtcmccjcelchlhaaGreatDoorFRp4
import Derived.Deep.DrawnRows
import Derived.Deep.RegionHeld3
import Derived.IntWalk
namespace Go.Proofs.YtcmccjcelchlhaaGreatDoor
open Go.RowKit
attribute [local go_sem ↓] Go.wp_at_zero Go.wp_at_succ

theorem ar_pos {e : Ex} (P : PartOk e) (hk : e.k = 4) : 0 < e.ar.length := by
  have h := P.op4 hk
  obtain ⟨h1, h2⟩ := P.a4 hk
  unfold arOf at h1 h2
  by_cases c1 : e.op = 2 ∨ e.op = 3 ∨ e.op = 24 ∨ e.op = 25
  · rw [if_pos c1] at h1; have h1 : (2 : Nat) ≤ e.ar.length := h1; omega
  rw [if_neg c1] at h1
  by_cases c2 : e.op = 26
  · rw [if_pos c2] at h1; have h1 : (3 : Nat) ≤ e.ar.length := h1; omega
  rw [if_neg c2] at h1
  by_cases c3 : e.op = 1 ∨ (12 ≤ e.op ∧ e.op ≤ 14) ∨ (20 ≤ e.op ∧ e.op ≤ 23) ∨ (28 ≤ e.op ∧ e.op ≤ 30) ∨ (34 ≤ e.op ∧ e.op ≤ 36)
  · rw [if_pos c3] at h1; have h1 : (1 : Nat) ≤ e.ar.length := h1; omega
  rw [if_neg c3, if_pos h] at h1
  have h1 : (2 : Nat) ≤ e.ar.length := h1; omega
set_option maxHeartbeats 4000000 in
set_option maxRecDepth 100000 in
theorem rtext_or (e : Ex) (hk : e.k = 4) (ho : e.op = 3) (hI : ∀ a ∈ e.ar, RTextSpec 26 a) (h9 : ∀ a ∈ e.ar, a.text.length ≤ 1000000000) (hj : ∀ l, ((insL l e.ar).map List.length).sum + 98 * e.ar.length ≤ 999999000) (hla : e.ar.length ≤ 999999) (hP : partF e = 0) (B : Nat) (cs : List Value) (w : World) (hx : ExAt w B e cs) (hB : B ≤ w.heap.size) (htab : Tab w) (hm : MxS w) :
    Calls Tryz.prog 26 #[.agg cs.toArray] w fun en w' => en = .returned (.string (tx (e.text))) ∧ Below w.heap.size w w' := by
  have P := partOk hP
  have HX := Lib.hid hx
  obtain ⟨R, hR⟩ : ∃ R, e.text = R := ⟨_, rfl⟩
  rw [hR]
  have hte := hR.symm.trans (text_eq e)
  have HTM := Lib.hid (fun w' (hb : Below w.heap.size w w') => And.intro (tabIs_below htab hb) (hm.below hb))
  obtain ⟨hn, hs, hl, ha, hx, hr, hi⟩ := hx
  rename_i A1 c1 A2 c2 cs
  have HXX := Lib.hid (fun w' (hb : Below w.heap.size w w') => HX.out.keep (hb.mono hB))
  have hk1 : (e.k == 1) = false := by rw [hk]; rfl
  have hk2 : (e.k == 2) = false := by rw [hk]; rfl
  have hk3 : (e.k == 3) = false := by rw [hk]; rfl
  have hk5 : (e.k == 5) = false := by rw [hk]; rfl
  rw [if_neg (by omega), if_neg (by omega), if_neg (by omega), if_neg (by omega)] at hte
  rw [if_pos ho] at hte
  have HRN := Lib.hid (show rowN e = 1 by unfold rowN; rw [if_neg (by omega), if_neg (by omega)]; simp [ho])
  have h10 := hj 2
  have HJ := Lib.hid (fun w' (hb : Below w.heap.size w w') => rlist_of e.ar [32, 111, 114, 32] 2 hI h9 (by omega) (by have := join_len (insL 2 e.ar) [32, 111, 114, 32]; rw [ins_len] at this; simp only [List.length_cons, List.length_nil] at this; omega) A2 c2 B cs w' (hr.below (hb.mono hB)) (fun i h => (hi i h).keep (hb.mono hB)) (Nat.le_trans hB hb.size) (HTM.out w' hb).1 (HTM.out w' hb).2)
  obtain ⟨t, htt⟩ : ∃ t, tx (Lib.join (insL 2 e.ar) [32, 111, 114, 32]) = t := ⟨_, rfl⟩
  simp only [htt] at HJ
  have HR := Lib.hid ((congrArg tx hte).trans htt)
  have hpos := ar_pos P hk
  obtain ⟨ad, ci0, rfl, hb0, hci0, hcell0⟩ := exs_at hr hi hpos
  have hz := h9 _ (List.getElem_mem hpos)
  have hTa := hI _ (List.getElem_mem hpos)
  obtain ⟨a, hea⟩ : ∃ a, e.ar[0] = a := ⟨_, rfl⟩
  rw [hea] at hci0 hz hTa
  have HCI := Lib.hid hci0
  obtain ⟨z1, z2, z3, z4, hxa, hra, hia⟩ := hci0
  rename_i A3 c3 A4 c4 cs3
  have hcell0' : ∀ j u, (exCells a A3 c3 A4 c4)[j]? = some u → w.cell? (ad.add j) = some u := fun j u hu => by have h := hcell0 j u hu; rwa [Nat.zero_mul, add_zero_ad] at h
  have fc0 : w.cell? (ad) = some (.int .i64 a.k) := hcell0' 0 _ rfl
  have fc1 : w.cell? ⟨(ad).block, (ad).off + 1, none⟩ = some (.int .i64 a.op) := hcell0' 1 _ rfl
  have fc2 : w.cell? ⟨(ad).block, (ad).off + 2, none⟩ = some (.string a.nm) := hcell0' 2 _ rfl
  have fc3 : w.cell? ⟨(ad).block, (ad).off + 3, none⟩ = some (.int .i64 a.v.k) := hcell0' 3 _ rfl
  have fc4 : w.cell? ⟨(ad).block, (ad).off + 4, none⟩ = some (.int .i64 a.v.n) := hcell0' 4 _ rfl
  have fc5 : w.cell? ⟨(ad).block, (ad).off + 5, none⟩ = some (.string a.v.s) := hcell0' 5 _ rfl
  have fc6 : w.cell? ⟨(ad).block, (ad).off + 6, none⟩ = some (.slice A3 a.v.l.length c3) := hcell0' 6 _ rfl
  have fc7 : w.cell? ⟨(ad).block, (ad).off + 7, none⟩ = some (.slice A4 a.ar.length c4) := hcell0' 7 _ rfl
  have hposI : (0 : Int) < (e.ar.length : Nat) := by omega
  clear hx hr hi htab hm hI h9 hj hla hR hte hcell0 hcell0' hxa hra hia hb0 hea z1 z2 z3 z4 P hP hk hpos ho h10 htt hz hTa
  show Calls Tryz.prog 26 #[.agg #[.int .i64 e.k, .int .i64 e.op, .string e.nm, .int .i64 e.v.k, .int .i64 e.v.n, .string e.v.s, .slice A1 e.v.l.length c1, .slice (some ad) e.ar.length c2]] w _
  go_enter Tryz.func26, Tryz.ntmps26
  go_upto_region 1 with (fail)
  obtain ⟨W, hW⟩ : ∃ W, W = (w.alloc (.cells #[.int .i64 e.k, .int .i64 e.op, .string e.nm, .int .i64 e.v.k, .int .i64 e.v.n, .string e.v.s, .slice A1 e.v.l.length c1, .slice (some ad) e.ar.length c2] 27 (0, 0))) := ⟨_, rfl⟩
  have hbw : Below w.heap.size w W := by rw [hW]; exact ((Below.refl _ w).alloc (Nat.le_refl _) _)
  have B0 : Blk W (w.heap.size) 27 #[.int .i64 e.k, .int .i64 e.op, .string e.nm, .int .i64 e.v.k, .int .i64 e.v.n, .string e.v.s, .slice A1 e.v.l.length c1, .slice (some ad) e.ar.length c2] := by
    rw [hW]
    have := Blk.new w 27 #[.int .i64 e.k, .int .i64 e.op, .string e.nm, .int .i64 e.v.k, .int .i64 e.v.n, .string e.v.s, .slice A1 e.v.l.length c1, .slice (some ad) e.ar.length c2]
    exact this
  have hsz : W.heap.size = w.heap.size + 1 := by rw [hW]; simp
  rw [← hW]
  have ec0 : W.cell? ⟨w.heap.size, 0, none⟩ = some (.int .i64 e.k) := B0.cell 0
  have ec1 : W.cell? ⟨w.heap.size, 1, none⟩ = some (.int .i64 e.op) := B0.cell 1
  have ec2 : W.cell? ⟨w.heap.size, 2, none⟩ = some (.string e.nm) := B0.cell 2
  have ec3 : W.cell? ⟨w.heap.size, 3, none⟩ = some (.int .i64 e.v.k) := B0.cell 3
  have ec4 : W.cell? ⟨w.heap.size, 4, none⟩ = some (.int .i64 e.v.n) := B0.cell 4
  have ec5 : W.cell? ⟨w.heap.size, 5, none⟩ = some (.string e.v.s) := B0.cell 5
  have ec6 : W.cell? ⟨w.heap.size, 6, none⟩ = some (.slice A1 e.v.l.length c1) := B0.cell 6
  have ec7 : W.cell? ⟨w.heap.size, 7, none⟩ = some (.slice (some ad) e.ar.length c2) := B0.cell 7
  have gc0 : W.cell? ad = some (.int .i64 a.k) := Below.cell_of hbw fc0
  have gc1 : W.cell? ⟨ad.block, ad.off + 1, none⟩ = some (.int .i64 a.op) := Below.cell_of hbw fc1
  have gc2 : W.cell? ⟨ad.block, ad.off + 2, none⟩ = some (.string a.nm) := Below.cell_of hbw fc2
  have gc3 : W.cell? ⟨ad.block, ad.off + 3, none⟩ = some (.int .i64 a.v.k) := Below.cell_of hbw fc3
  have gc4 : W.cell? ⟨ad.block, ad.off + 4, none⟩ = some (.int .i64 a.v.n) := Below.cell_of hbw fc4
  have gc5 : W.cell? ⟨ad.block, ad.off + 5, none⟩ = some (.string a.v.s) := Below.cell_of hbw fc5
  have gc6 : W.cell? ⟨ad.block, ad.off + 6, none⟩ = some (.slice A3 a.v.l.length c3) := Below.cell_of hbw fc6
  have gc7 : W.cell? ⟨ad.block, ad.off + 7, none⟩ = some (.slice A4 a.ar.length c4) := Below.cell_of hbw fc7
  clear hW hsz fc0 fc1 fc2 fc3 fc4 fc5 fc6 fc7
  go_upto_region 12 with (fail)
  obtain ⟨W3, hW3⟩ : ∃ W3, W3 = W.alloc (.cells #[.int .i64 a.k, .int .i64 a.op, .string a.nm, .int .i64 a.v.k, .int .i64 a.v.n, .string a.v.s, .slice A3 a.v.l.length c3, .slice A4 a.ar.length c4] 27 (0, 0)) := ⟨_, rfl⟩
  have hb3 : Below W.heap.size W W3 := hW3 ▸ (Below.refl _ W).alloc (Nat.le_refl _) _
  have B3 : Blk W3 W.heap.size 27 #[.int .i64 a.k, .int .i64 a.op, .string a.nm, .int .i64 a.v.k, .int .i64 a.v.n, .string a.v.s, .slice A3 a.v.l.length c3, .slice A4 a.ar.length c4] := hW3 ▸ Blk.new W _ _
  rw [← hW3]
  have hbw3 := hbw.trans (hb3.mono hbw.size)
  have B0 := B0.below hb3 B0.lt
  have hc0 := Below.cell_of hb3 gc0
  have hc1 := Below.cell_of hb3 gc1
  have hc2 := Below.cell_of hb3 gc2
  have hc3 := Below.cell_of hb3 gc3
  have hc4 := Below.cell_of hb3 gc4
  have hc5 := Below.cell_of hb3 gc5
  have hc6 := Below.cell_of hb3 gc6
  have hc7 := Below.cell_of hb3 gc7
  clear hW3 ec0 ec1 ec2 ec3 ec4 ec5 ec6 ec7 gc0 gc1 gc2 gc3 gc4 gc5 gc6 gc7
  have ec0 : W3.cell? ⟨w.heap.size, 0, none⟩ = some (.int .i64 e.k) := B0.cell 0
  have ec1 : W3.cell? ⟨w.heap.size, 1, none⟩ = some (.int .i64 e.op) := B0.cell 1
  have ec2 : W3.cell? ⟨w.heap.size, 2, none⟩ = some (.string e.nm) := B0.cell 2
  have ec3 : W3.cell? ⟨w.heap.size, 3, none⟩ = some (.int .i64 e.v.k) := B0.cell 3
  have ec4 : W3.cell? ⟨w.heap.size, 4, none⟩ = some (.int .i64 e.v.n) := B0.cell 4
  have ec5 : W3.cell? ⟨w.heap.size, 5, none⟩ = some (.string e.v.s) := B0.cell 5
  have ec6 : W3.cell? ⟨w.heap.size, 6, none⟩ = some (.slice A1 e.v.l.length c1) := B0.cell 6
  have ec7 : W3.cell? ⟨w.heap.size, 7, none⟩ = some (.slice (some ad) e.ar.length c2) := B0.cell 7
  go_wp2_with fail
  refine (rrow_any e B _ W3 (HXX.out W3 hbw3)).mono ?_
  rw [HRN.out]
  rintro en W1 ⟨rfl, hb1⟩
  have hbw1 := hbw3.trans (hb1.mono hbw3.size)
  have B0 := B0.below hb1 B0.lt
  have B3 := B3.below hb1 B3.lt
  have gc0 := Below.cell_of hb1 hc0
  have gc1 := Below.cell_of hb1 hc1
  have gc2 := Below.cell_of hb1 hc2
  have gc3 := Below.cell_of hb1 hc3
  have gc4 := Below.cell_of hb1 hc4
  have gc5 := Below.cell_of hb1 hc5
  have gc6 := Below.cell_of hb1 hc6
  have gc7 := Below.cell_of hb1 hc7
  clear ec0 ec1 ec2 ec3 ec4 ec5 ec6 ec7 hc0 hc1 hc2 hc3 hc4 hc5 hc6 hc7 hb1 hb3 hbw3
  have ec0 : W1.cell? ⟨w.heap.size, 0, none⟩ = some (.int .i64 e.k) := B0.cell 0
  have ec1 : W1.cell? ⟨w.heap.size, 1, none⟩ = some (.int .i64 e.op) := B0.cell 1
  have ec2 : W1.cell? ⟨w.heap.size, 2, none⟩ = some (.string e.nm) := B0.cell 2
  have ec3 : W1.cell? ⟨w.heap.size, 3, none⟩ = some (.int .i64 e.v.k) := B0.cell 3
  have ec4 : W1.cell? ⟨w.heap.size, 4, none⟩ = some (.int .i64 e.v.n) := B0.cell 4
  have ec5 : W1.cell? ⟨w.heap.size, 5, none⟩ = some (.string e.v.s) := B0.cell 5
  have ec6 : W1.cell? ⟨w.heap.size, 6, none⟩ = some (.slice A1 e.v.l.length c1) := B0.cell 6
  have ec7 : W1.cell? ⟨w.heap.size, 7, none⟩ = some (.slice (some ad) e.ar.length c2) := B0.cell 7
  have kc0 : W1.cell? ⟨W.heap.size, 0, none⟩ = some (.int .i64 a.k) := B3.cell 0
  have kc1 : W1.cell? ⟨W.heap.size, 1, none⟩ = some (.int .i64 a.op) := B3.cell 1
  have kc2 : W1.cell? ⟨W.heap.size, 2, none⟩ = some (.string a.nm) := B3.cell 2
  have kc3 : W1.cell? ⟨W.heap.size, 3, none⟩ = some (.int .i64 a.v.k) := B3.cell 3
  have kc4 : W1.cell? ⟨W.heap.size, 4, none⟩ = some (.int .i64 a.v.n) := B3.cell 4
  have kc5 : W1.cell? ⟨W.heap.size, 5, none⟩ = some (.string a.v.s) := B3.cell 5
  have kc6 : W1.cell? ⟨W.heap.size, 6, none⟩ = some (.slice A3 a.v.l.length c3) := B3.cell 6
  have kc7 : W1.cell? ⟨W.heap.size, 7, none⟩ = some (.slice A4 a.ar.length c4) := B3.cell 7
  go_wp2_with fail
  refine (HJ.out W1 hbw1).mono ?_
  rintro en W2 ⟨rfl, hb2⟩
  clear ec0 ec1 ec2 ec3 ec4 ec5 ec6 ec7 kc0 kc1 kc2 kc3 kc4 kc5 kc6 kc7 gc0 gc1 gc2 gc3 gc4 gc5 gc6 gc7 B0 B3
  go_wp2_with fail
  go_ret
  exact ⟨by rw [HR.out]; try rfl, hbw1.trans (hb2.mono hbw1.size)⟩
set_option maxHeartbeats 4000000 in
set_option maxRecDepth 100000 in
theorem rtext_and (e : Ex) (hk : e.k = 4) (ho : e.op = 2) (hI : ∀ a ∈ e.ar, RTextSpec 26 a) (h9 : ∀ a ∈ e.ar, a.text.length ≤ 1000000000) (hj : ∀ l, ((insL l e.ar).map List.length).sum + 98 * e.ar.length ≤ 999999000) (hla : e.ar.length ≤ 999999) (hP : partF e = 0) (B : Nat) (cs : List Value) (w : World) (hx : ExAt w B e cs) (hB : B ≤ w.heap.size) (htab : Tab w) (hm : MxS w) :
    Calls Tryz.prog 26 #[.agg cs.toArray] w fun en w' => en = .returned (.string (tx (e.text))) ∧ Below w.heap.size w w' := by
  have P := partOk hP
  have HX := Lib.hid hx
  obtain ⟨R, hR⟩ : ∃ R, e.text = R := ⟨_, rfl⟩
  rw [hR]
  have hte := hR.symm.trans (text_eq e)
  have HTM := Lib.hid (fun w' (hb : Below w.heap.size w w') => And.intro (tabIs_below htab hb) (hm.below hb))
  obtain ⟨hn, hs, hl, ha, hx, hr, hi⟩ := hx
  rename_i A1 c1 A2 c2 cs
  have HXX := Lib.hid (fun w' (hb : Below w.heap.size w w') => HX.out.keep (hb.mono hB))
  have hk1 : (e.k == 1) = false := by rw [hk]; rfl
  have hk2 : (e.k == 2) = false := by rw [hk]; rfl
  have hk3 : (e.k == 3) = false := by rw [hk]; rfl
  have hk5 : (e.k == 5) = false := by rw [hk]; rfl
  rw [if_neg (by omega), if_neg (by omega), if_neg (by omega), if_neg (by omega)] at hte
  rw [if_neg (by omega), if_pos ho] at hte
  have HRN := Lib.hid (show rowN e = 2 by unfold rowN; rw [if_neg (by omega), if_neg (by omega)]; simp [ho])
  have h10 := hj 3
  have HJ := Lib.hid (fun w' (hb : Below w.heap.size w w') => rlist_of e.ar [32, 97, 110, 100, 32] 3 hI h9 (by omega) (by have := join_len (insL 3 e.ar) [32, 97, 110, 100, 32]; rw [ins_len] at this; simp only [List.length_cons, List.length_nil] at this; omega) A2 c2 B cs w' (hr.below (hb.mono hB)) (fun i h => (hi i h).keep (hb.mono hB)) (Nat.le_trans hB hb.size) (HTM.out w' hb).1 (HTM.out w' hb).2)
  obtain ⟨t, htt⟩ : ∃ t, tx (Lib.join (insL 3 e.ar) [32, 97, 110, 100, 32]) = t := ⟨_, rfl⟩
  simp only [htt] at HJ
  have HR := Lib.hid ((congrArg tx hte).trans htt)
  have hpos := ar_pos P hk
  obtain ⟨ad, ci0, rfl, hb0, hci0, hcell0⟩ := exs_at hr hi hpos
  have hz := h9 _ (List.getElem_mem hpos)
  have hTa := hI _ (List.getElem_mem hpos)
  obtain ⟨a, hea⟩ : ∃ a, e.ar[0] = a := ⟨_, rfl⟩
  rw [hea] at hci0 hz hTa
  have HCI := Lib.hid hci0
  obtain ⟨z1, z2, z3, z4, hxa, hra, hia⟩ := hci0
  rename_i A3 c3 A4 c4 cs3
  have hcell0' : ∀ j u, (exCells a A3 c3 A4 c4)[j]? = some u → w.cell? (ad.add j) = some u := fun j u hu => by have h := hcell0 j u hu; rwa [Nat.zero_mul, add_zero_ad] at h
  have fc0 : w.cell? (ad) = some (.int .i64 a.k) := hcell0' 0 _ rfl
  have fc1 : w.cell? ⟨(ad).block, (ad).off + 1, none⟩ = some (.int .i64 a.op) := hcell0' 1 _ rfl
  have fc2 : w.cell? ⟨(ad).block, (ad).off + 2, none⟩ = some (.string a.nm) := hcell0' 2 _ rfl
  have fc3 : w.cell? ⟨(ad).block, (ad).off + 3, none⟩ = some (.int .i64 a.v.k) := hcell0' 3 _ rfl
  have fc4 : w.cell? ⟨(ad).block, (ad).off + 4, none⟩ = some (.int .i64 a.v.n) := hcell0' 4 _ rfl
  have fc5 : w.cell? ⟨(ad).block, (ad).off + 5, none⟩ = some (.string a.v.s) := hcell0' 5 _ rfl
  have fc6 : w.cell? ⟨(ad).block, (ad).off + 6, none⟩ = some (.slice A3 a.v.l.length c3) := hcell0' 6 _ rfl
  have fc7 : w.cell? ⟨(ad).block, (ad).off + 7, none⟩ = some (.slice A4 a.ar.length c4) := hcell0' 7 _ rfl
  have hposI : (0 : Int) < (e.ar.length : Nat) := by omega
  clear hx hr hi htab hm hI h9 hj hla hR hte hcell0 hcell0' hxa hra hia hb0 hea z1 z2 z3 z4 P hP hk hpos ho h10 htt hz hTa
  show Calls Tryz.prog 26 #[.agg #[.int .i64 e.k, .int .i64 e.op, .string e.nm, .int .i64 e.v.k, .int .i64 e.v.n, .string e.v.s, .slice A1 e.v.l.length c1, .slice (some ad) e.ar.length c2]] w _
  go_enter Tryz.func26, Tryz.ntmps26
  go_upto_region 1 with (fail)
  obtain ⟨W, hW⟩ : ∃ W, W = (w.alloc (.cells #[.int .i64 e.k, .int .i64 e.op, .string e.nm, .int .i64 e.v.k, .int .i64 e.v.n, .string e.v.s, .slice A1 e.v.l.length c1, .slice (some ad) e.ar.length c2] 27 (0, 0))) := ⟨_, rfl⟩
  have hbw : Below w.heap.size w W := by rw [hW]; exact ((Below.refl _ w).alloc (Nat.le_refl _) _)
  have B0 : Blk W (w.heap.size) 27 #[.int .i64 e.k, .int .i64 e.op, .string e.nm, .int .i64 e.v.k, .int .i64 e.v.n, .string e.v.s, .slice A1 e.v.l.length c1, .slice (some ad) e.ar.length c2] := by
    rw [hW]
    have := Blk.new w 27 #[.int .i64 e.k, .int .i64 e.op, .string e.nm, .int .i64 e.v.k, .int .i64 e.v.n, .string e.v.s, .slice A1 e.v.l.length c1, .slice (some ad) e.ar.length c2]
    exact this
  have hsz : W.heap.size = w.heap.size + 1 := by rw [hW]; simp
  rw [← hW]
  have ec0 : W.cell? ⟨w.heap.size, 0, none⟩ = some (.int .i64 e.k) := B0.cell 0
  have ec1 : W.cell? ⟨w.heap.size, 1, none⟩ = some (.int .i64 e.op) := B0.cell 1
  have ec2 : W.cell? ⟨w.heap.size, 2, none⟩ = some (.string e.nm) := B0.cell 2
  have ec3 : W.cell? ⟨w.heap.size, 3, none⟩ = some (.int .i64 e.v.k) := B0.cell 3
  have ec4 : W.cell? ⟨w.heap.size, 4, none⟩ = some (.int .i64 e.v.n) := B0.cell 4
  have ec5 : W.cell? ⟨w.heap.size, 5, none⟩ = some (.string e.v.s) := B0.cell 5
  have ec6 : W.cell? ⟨w.heap.size, 6, none⟩ = some (.slice A1 e.v.l.length c1) := B0.cell 6
  have ec7 : W.cell? ⟨w.heap.size, 7, none⟩ = some (.slice (some ad) e.ar.length c2) := B0.cell 7
  have gc0 : W.cell? ad = some (.int .i64 a.k) := Below.cell_of hbw fc0
  have gc1 : W.cell? ⟨ad.block, ad.off + 1, none⟩ = some (.int .i64 a.op) := Below.cell_of hbw fc1
  have gc2 : W.cell? ⟨ad.block, ad.off + 2, none⟩ = some (.string a.nm) := Below.cell_of hbw fc2
  have gc3 : W.cell? ⟨ad.block, ad.off + 3, none⟩ = some (.int .i64 a.v.k) := Below.cell_of hbw fc3
  have gc4 : W.cell? ⟨ad.block, ad.off + 4, none⟩ = some (.int .i64 a.v.n) := Below.cell_of hbw fc4
  have gc5 : W.cell? ⟨ad.block, ad.off + 5, none⟩ = some (.string a.v.s) := Below.cell_of hbw fc5
  have gc6 : W.cell? ⟨ad.block, ad.off + 6, none⟩ = some (.slice A3 a.v.l.length c3) := Below.cell_of hbw fc6
  have gc7 : W.cell? ⟨ad.block, ad.off + 7, none⟩ = some (.slice A4 a.ar.length c4) := Below.cell_of hbw fc7
  clear hW hsz fc0 fc1 fc2 fc3 fc4 fc5 fc6 fc7
  go_upto_region 12 with (fail)
  obtain ⟨W3, hW3⟩ : ∃ W3, W3 = W.alloc (.cells #[.int .i64 a.k, .int .i64 a.op, .string a.nm, .int .i64 a.v.k, .int .i64 a.v.n, .string a.v.s, .slice A3 a.v.l.length c3, .slice A4 a.ar.length c4] 27 (0, 0)) := ⟨_, rfl⟩
  have hb3 : Below W.heap.size W W3 := hW3 ▸ (Below.refl _ W).alloc (Nat.le_refl _) _
  have B3 : Blk W3 W.heap.size 27 #[.int .i64 a.k, .int .i64 a.op, .string a.nm, .int .i64 a.v.k, .int .i64 a.v.n, .string a.v.s, .slice A3 a.v.l.length c3, .slice A4 a.ar.length c4] := hW3 ▸ Blk.new W _ _
  rw [← hW3]
  have hbw3 := hbw.trans (hb3.mono hbw.size)
  have B0 := B0.below hb3 B0.lt
  have hc0 := Below.cell_of hb3 gc0
  have hc1 := Below.cell_of hb3 gc1
  have hc2 := Below.cell_of hb3 gc2
  have hc3 := Below.cell_of hb3 gc3
  have hc4 := Below.cell_of hb3 gc4
  have hc5 := Below.cell_of hb3 gc5
  have hc6 := Below.cell_of hb3 gc6
  have hc7 := Below.cell_of hb3 gc7
  clear hW3 ec0 ec1 ec2 ec3 ec4 ec5 ec6 ec7 gc0 gc1 gc2 gc3 gc4 gc5 gc6 gc7
  have ec0 : W3.cell? ⟨w.heap.size, 0, none⟩ = some (.int .i64 e.k) := B0.cell 0
  have ec1 : W3.cell? ⟨w.heap.size, 1, none⟩ = some (.int .i64 e.op) := B0.cell 1
  have ec2 : W3.cell? ⟨w.heap.size, 2, none⟩ = some (.string e.nm) := B0.cell 2
  have ec3 : W3.cell? ⟨w.heap.size, 3, none⟩ = some (.int .i64 e.v.k) := B0.cell 3
  have ec4 : W3.cell? ⟨w.heap.size, 4, none⟩ = some (.int .i64 e.v.n) := B0.cell 4
  have ec5 : W3.cell? ⟨w.heap.size, 5, none⟩ = some (.string e.v.s) := B0.cell 5
  have ec6 : W3.cell? ⟨w.heap.size, 6, none⟩ = some (.slice A1 e.v.l.length c1) := B0.cell 6
  have ec7 : W3.cell? ⟨w.heap.size, 7, none⟩ = some (.slice (some ad) e.ar.length c2) := B0.cell 7
  go_wp2_with fail
  refine (rrow_any e B _ W3 (HXX.out W3 hbw3)).mono ?_
  rw [HRN.out]
  rintro en W1 ⟨rfl, hb1⟩
  have hbw1 := hbw3.trans (hb1.mono hbw3.size)
  have B0 := B0.below hb1 B0.lt
  have B3 := B3.below hb1 B3.lt
  have gc0 := Below.cell_of hb1 hc0
  have gc1 := Below.cell_of hb1 hc1
  have gc2 := Below.cell_of hb1 hc2
  have gc3 := Below.cell_of hb1 hc3
  have gc4 := Below.cell_of hb1 hc4
  have gc5 := Below.cell_of hb1 hc5
  have gc6 := Below.cell_of hb1 hc6
  have gc7 := Below.cell_of hb1 hc7
  clear ec0 ec1 ec2 ec3 ec4 ec5 ec6 ec7 hc0 hc1 hc2 hc3 hc4 hc5 hc6 hc7 hb1 hb3 hbw3
  have ec0 : W1.cell? ⟨w.heap.size, 0, none⟩ = some (.int .i64 e.k) := B0.cell 0
  have ec1 : W1.cell? ⟨w.heap.size, 1, none⟩ = some (.int .i64 e.op) := B0.cell 1
  have ec2 : W1.cell? ⟨w.heap.size, 2, none⟩ = some (.string e.nm) := B0.cell 2
  have ec3 : W1.cell? ⟨w.heap.size, 3, none⟩ = some (.int .i64 e.v.k) := B0.cell 3
  have ec4 : W1.cell? ⟨w.heap.size, 4, none⟩ = some (.int .i64 e.v.n) := B0.cell 4
  have ec5 : W1.cell? ⟨w.heap.size, 5, none⟩ = some (.string e.v.s) := B0.cell 5
  have ec6 : W1.cell? ⟨w.heap.size, 6, none⟩ = some (.slice A1 e.v.l.length c1) := B0.cell 6
  have ec7 : W1.cell? ⟨w.heap.size, 7, none⟩ = some (.slice (some ad) e.ar.length c2) := B0.cell 7
  have kc0 : W1.cell? ⟨W.heap.size, 0, none⟩ = some (.int .i64 a.k) := B3.cell 0
  have kc1 : W1.cell? ⟨W.heap.size, 1, none⟩ = some (.int .i64 a.op) := B3.cell 1
  have kc2 : W1.cell? ⟨W.heap.size, 2, none⟩ = some (.string a.nm) := B3.cell 2
  have kc3 : W1.cell? ⟨W.heap.size, 3, none⟩ = some (.int .i64 a.v.k) := B3.cell 3
  have kc4 : W1.cell? ⟨W.heap.size, 4, none⟩ = some (.int .i64 a.v.n) := B3.cell 4
  have kc5 : W1.cell? ⟨W.heap.size, 5, none⟩ = some (.string a.v.s) := B3.cell 5
  have kc6 : W1.cell? ⟨W.heap.size, 6, none⟩ = some (.slice A3 a.v.l.length c3) := B3.cell 6
  have kc7 : W1.cell? ⟨W.heap.size, 7, none⟩ = some (.slice A4 a.ar.length c4) := B3.cell 7
  go_wp2_with fail
  refine (HJ.out W1 hbw1).mono ?_
  rintro en W2 ⟨rfl, hb2⟩
  clear ec0 ec1 ec2 ec3 ec4 ec5 ec6 ec7 kc0 kc1 kc2 kc3 kc4 kc5 kc6 kc7 gc0 gc1 gc2 gc3 gc4 gc5 gc6 gc7 B0 B3
  go_wp2_with fail
  go_ret
  exact ⟨by rw [HR.out]; try rfl, hbw1.trans (hb2.mono hbw1.size)⟩
set_option maxHeartbeats 4000000 in
set_option maxRecDepth 100000 in
theorem rtext_not (e : Ex) (hk : e.k = 4) (ho : e.op = 1) (hI : ∀ a ∈ e.ar, RTextSpec 26 a) (h9 : ∀ a ∈ e.ar, a.text.length ≤ 1000000000) (hj : ∀ l, ((insL l e.ar).map List.length).sum + 98 * e.ar.length ≤ 999999000) (hla : e.ar.length ≤ 999999) (hP : partF e = 0) (B : Nat) (cs : List Value) (w : World) (hx : ExAt w B e cs) (hB : B ≤ w.heap.size) (htab : Tab w) (hm : MxS w) :
    Calls Tryz.prog 26 #[.agg cs.toArray] w fun en w' => en = .returned (.string (tx (e.text))) ∧ Below w.heap.size w w' := by
  have P := partOk hP
  have HX := Lib.hid hx
  obtain ⟨R, hR⟩ : ∃ R, e.text = R := ⟨_, rfl⟩
  rw [hR]
  have hte := hR.symm.trans (text_eq e)
  have HTM := Lib.hid (fun w' (hb : Below w.heap.size w w') => And.intro (tabIs_below htab hb) (hm.below hb))
  obtain ⟨hn, hs, hl, ha, hx, hr, hi⟩ := hx
  rename_i A1 c1 A2 c2 cs
  have HXX := Lib.hid (fun w' (hb : Below w.heap.size w w') => HX.out.keep (hb.mono hB))
  have hk1 : (e.k == 1) = false := by rw [hk]; rfl
  have hk2 : (e.k == 2) = false := by rw [hk]; rfl
  have hk3 : (e.k == 3) = false := by rw [hk]; rfl
  have hk5 : (e.k == 5) = false := by rw [hk]; rfl
  rw [if_neg (by omega), if_neg (by omega), if_neg (by omega), if_neg (by omega)] at hte
  rw [if_neg (by omega), if_neg (by omega), if_pos ho] at hte
  have HRN := Lib.hid (show rowN e = 3 by unfold rowN; rw [if_neg (by omega), if_neg (by omega)]; simp [ho])
  have hpos := ar_pos P hk
  obtain ⟨ad, ci0, rfl, hb0, hci0, hcell0⟩ := exs_at hr hi hpos
  have hz := h9 _ (List.getElem_mem hpos)
  have hTa := hI _ (List.getElem_mem hpos)
  obtain ⟨a, hea⟩ : ∃ a, e.ar[0] = a := ⟨_, rfl⟩
  have hg := ins_get 3 e.ar 0 hpos
  rw [hea] at hg
  rw [hea] at hci0 hz hTa
  have HCI := Lib.hid hci0
  obtain ⟨z1, z2, z3, z4, hxa, hra, hia⟩ := hci0
  rename_i A3 c3 A4 c4 cs3
  have hcell0' : ∀ j u, (exCells a A3 c3 A4 c4)[j]? = some u → w.cell? (ad.add j) = some u := fun j u hu => by have h := hcell0 j u hu; rwa [Nat.zero_mul, add_zero_ad] at h
  have fc0 : w.cell? (ad) = some (.int .i64 a.k) := hcell0' 0 _ rfl
  have fc1 : w.cell? ⟨(ad).block, (ad).off + 1, none⟩ = some (.int .i64 a.op) := hcell0' 1 _ rfl
  have fc2 : w.cell? ⟨(ad).block, (ad).off + 2, none⟩ = some (.string a.nm) := hcell0' 2 _ rfl
  have fc3 : w.cell? ⟨(ad).block, (ad).off + 3, none⟩ = some (.int .i64 a.v.k) := hcell0' 3 _ rfl
  have fc4 : w.cell? ⟨(ad).block, (ad).off + 4, none⟩ = some (.int .i64 a.v.n) := hcell0' 4 _ rfl
  have fc5 : w.cell? ⟨(ad).block, (ad).off + 5, none⟩ = some (.string a.v.s) := hcell0' 5 _ rfl
  have fc6 : w.cell? ⟨(ad).block, (ad).off + 6, none⟩ = some (.slice A3 a.v.l.length c3) := hcell0' 6 _ rfl
  have fc7 : w.cell? ⟨(ad).block, (ad).off + 7, none⟩ = some (.slice A4 a.ar.length c4) := hcell0' 7 _ rfl
  have hposI : (0 : Int) < (e.ar.length : Nat) := by omega
  obtain ⟨t, htt⟩ : ∃ t, tx (parT (decide (rowN a < 3)) a.text) = t := ⟨_, rfl⟩
  have hpl := par_le (decide (rowN a < 3)) a.text
  have st : t.size ≤ 2000000000 := by rw [← htt, tx_size]; omega
  have HJ := Lib.hid (fun w' (hb : Below w.heap.size w w') cs' (hx' : ExAt w' B a cs') => inside_of a 3 hTa hz B cs' w' hx' (Nat.le_trans hB hb.size) (HTM.out w' hb).1 (HTM.out w' hb).2)
  simp only [htt] at HJ
  have HR := Lib.hid (show tx R = ⟨#[110, 111, 116, 32]⟩ ++ t by rw [hte, hg, ← htt, ← tx_cat]; rfl)
  clear hx hr hi htab hm hI h9 hj hla hR hte hcell0 hcell0' hxa hra hia hb0 hea z1 z2 z3 z4 P hP hk hpos ho hz hTa hg htt hpl
  show Calls Tryz.prog 26 #[.agg #[.int .i64 e.k, .int .i64 e.op, .string e.nm, .int .i64 e.v.k, .int .i64 e.v.n, .string e.v.s, .slice A1 e.v.l.length c1, .slice (some ad) e.ar.length c2]] w _
  go_enter Tryz.func26, Tryz.ntmps26
  go_upto_region 1 with (fail)
  obtain ⟨W, hW⟩ : ∃ W, W = (w.alloc (.cells #[.int .i64 e.k, .int .i64 e.op, .string e.nm, .int .i64 e.v.k, .int .i64 e.v.n, .string e.v.s, .slice A1 e.v.l.length c1, .slice (some ad) e.ar.length c2] 27 (0, 0))) := ⟨_, rfl⟩
  have hbw : Below w.heap.size w W := by rw [hW]; exact ((Below.refl _ w).alloc (Nat.le_refl _) _)
  have B0 : Blk W (w.heap.size) 27 #[.int .i64 e.k, .int .i64 e.op, .string e.nm, .int .i64 e.v.k, .int .i64 e.v.n, .string e.v.s, .slice A1 e.v.l.length c1, .slice (some ad) e.ar.length c2] := by
    rw [hW]
    have := Blk.new w 27 #[.int .i64 e.k, .int .i64 e.op, .string e.nm, .int .i64 e.v.k, .int .i64 e.v.n, .string e.v.s, .slice A1 e.v.l.length c1, .slice (some ad) e.ar.length c2]
    exact this
  have hsz : W.heap.size = w.heap.size + 1 := by rw [hW]; simp
  rw [← hW]
  have ec0 : W.cell? ⟨w.heap.size, 0, none⟩ = some (.int .i64 e.k) := B0.cell 0
  have ec1 : W.cell? ⟨w.heap.size, 1, none⟩ = some (.int .i64 e.op) := B0.cell 1
  have ec2 : W.cell? ⟨w.heap.size, 2, none⟩ = some (.string e.nm) := B0.cell 2
  have ec3 : W.cell? ⟨w.heap.size, 3, none⟩ = some (.int .i64 e.v.k) := B0.cell 3
  have ec4 : W.cell? ⟨w.heap.size, 4, none⟩ = some (.int .i64 e.v.n) := B0.cell 4
  have ec5 : W.cell? ⟨w.heap.size, 5, none⟩ = some (.string e.v.s) := B0.cell 5
  have ec6 : W.cell? ⟨w.heap.size, 6, none⟩ = some (.slice A1 e.v.l.length c1) := B0.cell 6
  have ec7 : W.cell? ⟨w.heap.size, 7, none⟩ = some (.slice (some ad) e.ar.length c2) := B0.cell 7
  have gc0 : W.cell? ad = some (.int .i64 a.k) := Below.cell_of hbw fc0
  have gc1 : W.cell? ⟨ad.block, ad.off + 1, none⟩ = some (.int .i64 a.op) := Below.cell_of hbw fc1
  have gc2 : W.cell? ⟨ad.block, ad.off + 2, none⟩ = some (.string a.nm) := Below.cell_of hbw fc2
  have gc3 : W.cell? ⟨ad.block, ad.off + 3, none⟩ = some (.int .i64 a.v.k) := Below.cell_of hbw fc3
  have gc4 : W.cell? ⟨ad.block, ad.off + 4, none⟩ = some (.int .i64 a.v.n) := Below.cell_of hbw fc4
  have gc5 : W.cell? ⟨ad.block, ad.off + 5, none⟩ = some (.string a.v.s) := Below.cell_of hbw fc5
  have gc6 : W.cell? ⟨ad.block, ad.off + 6, none⟩ = some (.slice A3 a.v.l.length c3) := Below.cell_of hbw fc6
  have gc7 : W.cell? ⟨ad.block, ad.off + 7, none⟩ = some (.slice A4 a.ar.length c4) := Below.cell_of hbw fc7
  clear hW hsz fc0 fc1 fc2 fc3 fc4 fc5 fc6 fc7
  go_upto_region 12 with (fail)
  obtain ⟨W3, hW3⟩ : ∃ W3, W3 = W.alloc (.cells #[.int .i64 a.k, .int .i64 a.op, .string a.nm, .int .i64 a.v.k, .int .i64 a.v.n, .string a.v.s, .slice A3 a.v.l.length c3, .slice A4 a.ar.length c4] 27 (0, 0)) := ⟨_, rfl⟩
  have hb3 : Below W.heap.size W W3 := hW3 ▸ (Below.refl _ W).alloc (Nat.le_refl _) _
  have B3 : Blk W3 W.heap.size 27 #[.int .i64 a.k, .int .i64 a.op, .string a.nm, .int .i64 a.v.k, .int .i64 a.v.n, .string a.v.s, .slice A3 a.v.l.length c3, .slice A4 a.ar.length c4] := hW3 ▸ Blk.new W _ _
  rw [← hW3]
  have hbw3 := hbw.trans (hb3.mono hbw.size)
  have B0 := B0.below hb3 B0.lt
  have hc0 := Below.cell_of hb3 gc0
  have hc1 := Below.cell_of hb3 gc1
  have hc2 := Below.cell_of hb3 gc2
  have hc3 := Below.cell_of hb3 gc3
  have hc4 := Below.cell_of hb3 gc4
  have hc5 := Below.cell_of hb3 gc5
  have hc6 := Below.cell_of hb3 gc6
  have hc7 := Below.cell_of hb3 gc7
  clear hW3 ec0 ec1 ec2 ec3 ec4 ec5 ec6 ec7 gc0 gc1 gc2 gc3 gc4 gc5 gc6 gc7
  have ec0 : W3.cell? ⟨w.heap.size, 0, none⟩ = some (.int .i64 e.k) := B0.cell 0
  have ec1 : W3.cell? ⟨w.heap.size, 1, none⟩ = some (.int .i64 e.op) := B0.cell 1
  have ec2 : W3.cell? ⟨w.heap.size, 2, none⟩ = some (.string e.nm) := B0.cell 2
  have ec3 : W3.cell? ⟨w.heap.size, 3, none⟩ = some (.int .i64 e.v.k) := B0.cell 3
  have ec4 : W3.cell? ⟨w.heap.size, 4, none⟩ = some (.int .i64 e.v.n) := B0.cell 4
  have ec5 : W3.cell? ⟨w.heap.size, 5, none⟩ = some (.string e.v.s) := B0.cell 5
  have ec6 : W3.cell? ⟨w.heap.size, 6, none⟩ = some (.slice A1 e.v.l.length c1) := B0.cell 6
  have ec7 : W3.cell? ⟨w.heap.size, 7, none⟩ = some (.slice (some ad) e.ar.length c2) := B0.cell 7
  go_wp2_with fail
  refine (rrow_any e B _ W3 (HXX.out W3 hbw3)).mono ?_
  rw [HRN.out]
  rintro en W1 ⟨rfl, hb1⟩
  have hbw1 := hbw3.trans (hb1.mono hbw3.size)
  have B0 := B0.below hb1 B0.lt
  have B3 := B3.below hb1 B3.lt
  have gc0 := Below.cell_of hb1 hc0
  have gc1 := Below.cell_of hb1 hc1
  have gc2 := Below.cell_of hb1 hc2
  have gc3 := Below.cell_of hb1 hc3
  have gc4 := Below.cell_of hb1 hc4
  have gc5 := Below.cell_of hb1 hc5
  have gc6 := Below.cell_of hb1 hc6
  have gc7 := Below.cell_of hb1 hc7
  clear ec0 ec1 ec2 ec3 ec4 ec5 ec6 ec7 hc0 hc1 hc2 hc3 hc4 hc5 hc6 hc7 hb1 hb3 hbw3
  have ec0 : W1.cell? ⟨w.heap.size, 0, none⟩ = some (.int .i64 e.k) := B0.cell 0
  have ec1 : W1.cell? ⟨w.heap.size, 1, none⟩ = some (.int .i64 e.op) := B0.cell 1
  have ec2 : W1.cell? ⟨w.heap.size, 2, none⟩ = some (.string e.nm) := B0.cell 2
  have ec3 : W1.cell? ⟨w.heap.size, 3, none⟩ = some (.int .i64 e.v.k) := B0.cell 3
  have ec4 : W1.cell? ⟨w.heap.size, 4, none⟩ = some (.int .i64 e.v.n) := B0.cell 4
  have ec5 : W1.cell? ⟨w.heap.size, 5, none⟩ = some (.string e.v.s) := B0.cell 5
  have ec6 : W1.cell? ⟨w.heap.size, 6, none⟩ = some (.slice A1 e.v.l.length c1) := B0.cell 6
  have ec7 : W1.cell? ⟨w.heap.size, 7, none⟩ = some (.slice (some ad) e.ar.length c2) := B0.cell 7
  have kc0 : W1.cell? ⟨W.heap.size, 0, none⟩ = some (.int .i64 a.k) := B3.cell 0
  have kc1 : W1.cell? ⟨W.heap.size, 1, none⟩ = some (.int .i64 a.op) := B3.cell 1
  have kc2 : W1.cell? ⟨W.heap.size, 2, none⟩ = some (.string a.nm) := B3.cell 2
  have kc3 : W1.cell? ⟨W.heap.size, 3, none⟩ = some (.int .i64 a.v.k) := B3.cell 3
  have kc4 : W1.cell? ⟨W.heap.size, 4, none⟩ = some (.int .i64 a.v.n) := B3.cell 4
  have kc5 : W1.cell? ⟨W.heap.size, 5, none⟩ = some (.string a.v.s) := B3.cell 5
  have kc6 : W1.cell? ⟨W.heap.size, 6, none⟩ = some (.slice A3 a.v.l.length c3) := B3.cell 6
  have kc7 : W1.cell? ⟨W.heap.size, 7, none⟩ = some (.slice A4 a.ar.length c4) := B3.cell 7
  go_wp2_with fail
  refine (HJ.out W1 hbw1 _ (HCI.out.keep (hbw1.mono hB))).mono ?_
  rintro en W2 ⟨rfl, hb2⟩
  clear ec0 ec1 ec2 ec3 ec4 ec5 ec6 ec7 kc0 kc1 kc2 kc3 kc4 kc5 kc6 kc7 gc0 gc1 gc2 gc3 gc4 gc5 gc6 gc7 B0 B3
  go_wp2_with fail
  go_ret
  exact ⟨by rw [HR.out]; try rfl, hbw1.trans (hb2.mono hbw1.size)⟩
end Go.Proofs.YtcmccjcelchlhaaGreatDoor
