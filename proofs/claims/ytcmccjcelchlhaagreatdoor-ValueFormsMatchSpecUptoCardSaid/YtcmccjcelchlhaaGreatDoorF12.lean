/- The walk of text, whole; Print. · The walks of the reference's digits, decimal and reason. · The walk of the reference's Show: a value's text, or its fault. -/
import Derived.Test.YtcmccjcelchlhaaGreatDoorF11
import Derived.Deep.DrawnRows
import Derived.Deep.RegionHeld3
import Derived.Test.YtcmccjcelchlhaaGreatDoorF8
import Derived.Outline
namespace Go.Proofs.YtcmccjcelchlhaaGreatDoor
open Go.RowKit
attribute [local go_sem ↓] Go.wp_at_zero Go.wp_at_succ

set_option maxHeartbeats 4000000 in
set_option maxRecDepth 100000 in
theorem text_not (e : Ex) (hk : e.k = 4) (ho : e.op = 1) (hI : ∀ a ∈ e.ar, TextSpec 25 a) (h9 : ∀ a ∈ e.ar, a.text.length ≤ 1000000000) (hj : ∀ l, ((insL l e.ar).map List.length).sum + 98 * e.ar.length ≤ 999999000) (hla : e.ar.length ≤ 999999) (hP : partF e = 0) (B : Nat) (cs : List Value) (w : World) (hx : ExAt w B e cs) (hB : B ≤ w.heap.size) (htab : Tab w) (hm : Mx w) :
    Calls Tryz.prog 25 #[.agg cs.toArray] w fun en w' => en = .returned (.string (tx (e.text))) ∧ Below w.heap.size w w' := by
  have P := partOk hP
  have HX := Lib.hid hx
  obtain ⟨R, hR⟩ : ∃ R, e.text = R := ⟨_, rfl⟩
  rw [hR]
  have hte := hR.symm.trans (text_eq e)
  have HTM := Lib.hid (fun w' (hb : Below w.heap.size w w') => And.intro (tabIs_below htab hb) (hm.below hb))
  obtain ⟨hn, hs, hl, ha, hx, hr, hi⟩ := hx
  rename_i A1 c1 A2 c2 cs
  have HXX := Lib.hid (fun w' (hb : Below w.heap.size w w') => HX.out.keep (hb.mono hB))
  have hk1 : (e.k == 1) = false := by rw [hk]; rfl
  have hk2 : (e.k == 2) = false := by rw [hk]; rfl
  have hk3 : (e.k == 3) = false := by rw [hk]; rfl
  have hk5 : (e.k == 5) = false := by rw [hk]; rfl
  rw [if_neg (by omega), if_neg (by omega), if_neg (by omega), if_neg (by omega)] at hte
  rw [if_neg (by omega), if_neg (by omega), if_pos ho] at hte
  have HRN := Lib.hid (show rowN e = 3 by unfold rowN; rw [if_neg (by omega), if_neg (by omega)]; simp [ho])
  have hal := P.a4 hk
  have h1 : e.ar.length = 1 := by
    unfold arOf at hal
    rw [if_neg (by omega), if_neg (by omega), if_pos (by omega)] at hal
    have h1 : (1 : Nat) ≤ e.ar.length := hal.1
    have h3 : e.ar.length ≤ (1 : Nat) := hal.2
    omega
  obtain ⟨ad, ci0, rfl, hb0, hci0, hcell0⟩ := exs_at hr hi (show 0 < e.ar.length by omega)
  have hg := ins_get 3 e.ar 0 (by omega)
  have hz := h9 _ (List.getElem_mem (show 0 < e.ar.length by omega))
  have hTa := hI _ (List.getElem_mem (show 0 < e.ar.length by omega))
  obtain ⟨a, hea⟩ : ∃ a, e.ar[0] = a := ⟨_, rfl⟩
  rw [hea] at hci0 hg hz hTa
  have HCI := Lib.hid hci0
  obtain ⟨z1, z2, z3, z4, hxa, hra, hia⟩ := hci0
  rename_i A3 c3 A4 c4 cs3
  have hcell0' : ∀ j u, (exCells a A3 c3 A4 c4)[j]? = some u → w.cell? (ad.add j) = some u := fun j u hu => by have h := hcell0 j u hu; rwa [Nat.zero_mul, add_zero_ad] at h
  have fc0 : w.cell? (ad) = some (.int .i64 a.k) := hcell0' 0 _ rfl
  have fc1 : w.cell? ⟨(ad).block, (ad).off + 1, none⟩ = some (.int .i64 a.op) := hcell0' 1 _ rfl
  have fc2 : w.cell? ⟨(ad).block, (ad).off + 2, none⟩ = some (.string a.nm) := hcell0' 2 _ rfl
  have fc3 : w.cell? ⟨(ad).block, (ad).off + 3, none⟩ = some (.int .i64 a.v.k) := hcell0' 3 _ rfl
  have fc4 : w.cell? ⟨(ad).block, (ad).off + 4, none⟩ = some (.int .i64 a.v.n) := hcell0' 4 _ rfl
  have fc5 : w.cell? ⟨(ad).block, (ad).off + 5, none⟩ = some (.string a.v.s) := hcell0' 5 _ rfl
  have fc6 : w.cell? ⟨(ad).block, (ad).off + 6, none⟩ = some (.slice A3 a.v.l.length c3) := hcell0' 6 _ rfl
  have fc7 : w.cell? ⟨(ad).block, (ad).off + 7, none⟩ = some (.slice A4 a.ar.length c4) := hcell0' 7 _ rfl
  have HL1 := Lib.hid h1
  obtain ⟨t, htt⟩ : ∃ t, tx (parT (decide (rowN a < 3)) a.text) = t := ⟨_, rfl⟩
  have hpl := par_le (decide (rowN a < 3)) a.text
  have st : t.size ≤ 2000000000 := by rw [← htt, tx_size]; omega
  have HJ := Lib.hid (fun w' (hb : Below w.heap.size w w') cs' (hx' : ExAt w' B a cs') => within_of a 3 hTa hz B cs' w' hx' (Nat.le_trans hB hb.size) (HTM.out w' hb).1 (HTM.out w' hb).2)
  simp only [htt] at HJ
  have HR := Lib.hid (show tx R = ⟨#[110, 111, 116, 32]⟩ ++ t by rw [hte, hg, ← htt, ← tx_cat]; rfl)
  clear hx hr hi htab hm hI h9 hj hla hR hte hcell0 hcell0' hxa hra hia hb0 hea z1 z2 z3 z4 P hP hk ho hal hg hz hTa htt hpl
  change Hid (∀ w', Below w.heap.size w w' → ExAt w' B e [.int .i64 e.k, .int .i64 e.op, .string e.nm, .int .i64 e.v.k, .int .i64 e.v.n, .string e.v.s, .slice A1 e.v.l.length c1, .slice (some ad) e.ar.length c2]) at HXX
  rw [h1] at HXX
  show Calls Tryz.prog 25 #[.agg #[.int .i64 e.k, .int .i64 e.op, .string e.nm, .int .i64 e.v.k, .int .i64 e.v.n, .string e.v.s, .slice A1 e.v.l.length c1, .slice (some ad) e.ar.length c2]] w _
  rw [h1]
  clear h1
  go_enter Tryz.func25, Tryz.ntmps25
  go_upto_region 1 with (fail)
  obtain ⟨W, hW⟩ : ∃ W, W = (w.alloc (.cells #[.int .i64 e.k, .int .i64 e.op, .string e.nm, .int .i64 e.v.k, .int .i64 e.v.n, .string e.v.s, .slice A1 e.v.l.length c1, .slice (some ad) 1 c2] 27 (0, 0))) := ⟨_, rfl⟩
  have hbw : Below w.heap.size w W := by rw [hW]; exact ((Below.refl _ w).alloc (Nat.le_refl _) _)
  have B0 : Blk W (w.heap.size) 27 #[.int .i64 e.k, .int .i64 e.op, .string e.nm, .int .i64 e.v.k, .int .i64 e.v.n, .string e.v.s, .slice A1 e.v.l.length c1, .slice (some ad) 1 c2] := by
    rw [hW]
    have := Blk.new w 27 #[.int .i64 e.k, .int .i64 e.op, .string e.nm, .int .i64 e.v.k, .int .i64 e.v.n, .string e.v.s, .slice A1 e.v.l.length c1, .slice (some ad) 1 c2]
    exact this
  have hsz : W.heap.size = w.heap.size + 1 := by rw [hW]; simp
  rw [← hW]
  have ec0 : W.cell? ⟨w.heap.size, 0, none⟩ = some (.int .i64 e.k) := B0.cell 0
  have ec1 : W.cell? ⟨w.heap.size, 1, none⟩ = some (.int .i64 e.op) := B0.cell 1
  have ec2 : W.cell? ⟨w.heap.size, 2, none⟩ = some (.string e.nm) := B0.cell 2
  have ec3 : W.cell? ⟨w.heap.size, 3, none⟩ = some (.int .i64 e.v.k) := B0.cell 3
  have ec4 : W.cell? ⟨w.heap.size, 4, none⟩ = some (.int .i64 e.v.n) := B0.cell 4
  have ec5 : W.cell? ⟨w.heap.size, 5, none⟩ = some (.string e.v.s) := B0.cell 5
  have ec6 : W.cell? ⟨w.heap.size, 6, none⟩ = some (.slice A1 e.v.l.length c1) := B0.cell 6
  have ec7 : W.cell? ⟨w.heap.size, 7, none⟩ = some (.slice (some ad) 1 c2) := B0.cell 7
  have gc0 : W.cell? ad = some (.int .i64 a.k) := Below.cell_of hbw fc0
  have gc1 : W.cell? ⟨ad.block, ad.off + 1, none⟩ = some (.int .i64 a.op) := Below.cell_of hbw fc1
  have gc2 : W.cell? ⟨ad.block, ad.off + 2, none⟩ = some (.string a.nm) := Below.cell_of hbw fc2
  have gc3 : W.cell? ⟨ad.block, ad.off + 3, none⟩ = some (.int .i64 a.v.k) := Below.cell_of hbw fc3
  have gc4 : W.cell? ⟨ad.block, ad.off + 4, none⟩ = some (.int .i64 a.v.n) := Below.cell_of hbw fc4
  have gc5 : W.cell? ⟨ad.block, ad.off + 5, none⟩ = some (.string a.v.s) := Below.cell_of hbw fc5
  have gc6 : W.cell? ⟨ad.block, ad.off + 6, none⟩ = some (.slice A3 a.v.l.length c3) := Below.cell_of hbw fc6
  have gc7 : W.cell? ⟨ad.block, ad.off + 7, none⟩ = some (.slice A4 a.ar.length c4) := Below.cell_of hbw fc7
  clear hW hsz fc0 fc1 fc2 fc3 fc4 fc5 fc6 fc7
  go_wp2_with fail
  refine (row_any e B _ W (HXX.out W hbw)).mono ?_
  rw [HRN.out]
  rintro en W1 ⟨rfl, hb1⟩
  have hbw1 := hbw.trans (hb1.mono hbw.size)
  have B0 := B0.below hb1 B0.lt
  have hc0 := Below.cell_of hb1 gc0
  have hc1 := Below.cell_of hb1 gc1
  have hc2 := Below.cell_of hb1 gc2
  have hc3 := Below.cell_of hb1 gc3
  have hc4 := Below.cell_of hb1 gc4
  have hc5 := Below.cell_of hb1 gc5
  have hc6 := Below.cell_of hb1 gc6
  have hc7 := Below.cell_of hb1 gc7
  clear ec0 ec1 ec2 ec3 ec4 ec5 ec6 ec7 gc0 gc1 gc2 gc3 gc4 gc5 gc6 gc7 hb1
  have ec0 : W1.cell? ⟨w.heap.size, 0, none⟩ = some (.int .i64 e.k) := B0.cell 0
  have ec1 : W1.cell? ⟨w.heap.size, 1, none⟩ = some (.int .i64 e.op) := B0.cell 1
  have ec2 : W1.cell? ⟨w.heap.size, 2, none⟩ = some (.string e.nm) := B0.cell 2
  have ec3 : W1.cell? ⟨w.heap.size, 3, none⟩ = some (.int .i64 e.v.k) := B0.cell 3
  have ec4 : W1.cell? ⟨w.heap.size, 4, none⟩ = some (.int .i64 e.v.n) := B0.cell 4
  have ec5 : W1.cell? ⟨w.heap.size, 5, none⟩ = some (.string e.v.s) := B0.cell 5
  have ec6 : W1.cell? ⟨w.heap.size, 6, none⟩ = some (.slice A1 e.v.l.length c1) := B0.cell 6
  have ec7 : W1.cell? ⟨w.heap.size, 7, none⟩ = some (.slice (some ad) 1 c2) := B0.cell 7
  go_wp2_with fail
  refine (HJ.out W1 hbw1 _ (HCI.out.keep (hbw1.mono hB))).mono ?_
  rintro en W2 ⟨rfl, hb2⟩
  clear ec0 ec1 ec2 ec3 ec4 ec5 ec6 ec7 hc0 hc1 hc2 hc3 hc4 hc5 hc6 hc7 B0
  go_wp2_with fail
  go_ret
  exact ⟨by rw [HR.out]; try rfl, hbw1.trans (hb2.mono hbw1.size)⟩
set_option maxHeartbeats 4000000 in
set_option maxRecDepth 100000 in
theorem text_neg (e : Ex) (hk : e.k = 4) (ho : e.op = 20) (hI : ∀ a ∈ e.ar, TextSpec 25 a) (h9 : ∀ a ∈ e.ar, a.text.length ≤ 1000000000) (hj : ∀ l, ((insL l e.ar).map List.length).sum + 98 * e.ar.length ≤ 999999000) (hla : e.ar.length ≤ 999999) (hP : partF e = 0) (B : Nat) (cs : List Value) (w : World) (hx : ExAt w B e cs) (hB : B ≤ w.heap.size) (htab : Tab w) (hm : Mx w) :
    Calls Tryz.prog 25 #[.agg cs.toArray] w fun en w' => en = .returned (.string (tx (e.text))) ∧ Below w.heap.size w w' := by
  have P := partOk hP
  have HX := Lib.hid hx
  obtain ⟨R, hR⟩ : ∃ R, e.text = R := ⟨_, rfl⟩
  rw [hR]
  have hte := hR.symm.trans (text_eq e)
  have HTM := Lib.hid (fun w' (hb : Below w.heap.size w w') => And.intro (tabIs_below htab hb) (hm.below hb))
  obtain ⟨hn, hs, hl, ha, hx, hr, hi⟩ := hx
  rename_i A1 c1 A2 c2 cs
  have HXX := Lib.hid (fun w' (hb : Below w.heap.size w w') => HX.out.keep (hb.mono hB))
  have hk1 : (e.k == 1) = false := by rw [hk]; rfl
  have hk2 : (e.k == 2) = false := by rw [hk]; rfl
  have hk3 : (e.k == 3) = false := by rw [hk]; rfl
  have hk5 : (e.k == 5) = false := by rw [hk]; rfl
  rw [if_neg (by omega), if_neg (by omega), if_neg (by omega), if_neg (by omega)] at hte
  rw [if_neg (by omega), if_neg (by omega), if_neg (by omega), if_neg (by omega), if_neg (by omega), if_neg (by omega), if_pos ho] at hte
  have HRN := Lib.hid (show rowN e = 7 by unfold rowN; rw [if_neg (by omega), if_neg (by omega)]; simp [ho])
  have hal := P.a4 hk
  have h1 : e.ar.length = 1 := by
    unfold arOf at hal
    rw [if_neg (by omega), if_neg (by omega), if_pos (by omega)] at hal
    have h1 : (1 : Nat) ≤ e.ar.length := hal.1
    have h3 : e.ar.length ≤ (1 : Nat) := hal.2
    omega
  obtain ⟨ad, ci0, rfl, hb0, hci0, hcell0⟩ := exs_at hr hi (show 0 < e.ar.length by omega)
  have hg := ins_get 7 e.ar 0 (by omega)
  have hz := h9 _ (List.getElem_mem (show 0 < e.ar.length by omega))
  have hTa := hI _ (List.getElem_mem (show 0 < e.ar.length by omega))
  obtain ⟨a, hea⟩ : ∃ a, e.ar[0] = a := ⟨_, rfl⟩
  rw [hea] at hci0 hg hz hTa
  have HCI := Lib.hid hci0
  obtain ⟨z1, z2, z3, z4, hxa, hra, hia⟩ := hci0
  rename_i A3 c3 A4 c4 cs3
  have hcell0' : ∀ j u, (exCells a A3 c3 A4 c4)[j]? = some u → w.cell? (ad.add j) = some u := fun j u hu => by have h := hcell0 j u hu; rwa [Nat.zero_mul, add_zero_ad] at h
  have fc0 : w.cell? (ad) = some (.int .i64 a.k) := hcell0' 0 _ rfl
  have fc1 : w.cell? ⟨(ad).block, (ad).off + 1, none⟩ = some (.int .i64 a.op) := hcell0' 1 _ rfl
  have fc2 : w.cell? ⟨(ad).block, (ad).off + 2, none⟩ = some (.string a.nm) := hcell0' 2 _ rfl
  have fc3 : w.cell? ⟨(ad).block, (ad).off + 3, none⟩ = some (.int .i64 a.v.k) := hcell0' 3 _ rfl
  have fc4 : w.cell? ⟨(ad).block, (ad).off + 4, none⟩ = some (.int .i64 a.v.n) := hcell0' 4 _ rfl
  have fc5 : w.cell? ⟨(ad).block, (ad).off + 5, none⟩ = some (.string a.v.s) := hcell0' 5 _ rfl
  have fc6 : w.cell? ⟨(ad).block, (ad).off + 6, none⟩ = some (.slice A3 a.v.l.length c3) := hcell0' 6 _ rfl
  have fc7 : w.cell? ⟨(ad).block, (ad).off + 7, none⟩ = some (.slice A4 a.ar.length c4) := hcell0' 7 _ rfl
  have HL1 := Lib.hid h1
  obtain ⟨t, htt⟩ : ∃ t, tx ((if a.k = 1 ∧ a.v.k = 2 ∧ 0 ≤ a.v.n then [45, 40] ++ a.text ++ [41] else [45] ++ parT (decide (rowN a < 7)) a.text)) = t := ⟨_, rfl⟩
  have hpl := par_le (decide (rowN a < 7)) a.text
  have HJ := Lib.hid (fun w' (hb : Below w.heap.size w w') cs' (hx' : ExAt w' B a cs') => negated_of a hTa hz B cs' w' hx' (Nat.le_trans hB hb.size) (HTM.out w' hb).1 (HTM.out w' hb).2)
  simp only [htt] at HJ
  have hg0 := ins_get 0 e.ar 0 (by omega)
  have hhd : headNeg e.ar = (decide (a.k = 1) && (decide (a.v.k = 2) && decide (0 ≤ a.v.n))) := by
    match hr' : e.ar, h1 with
    | [x], _ => (have hx1 : x = a := by have h := hea; simp only [hr'] at h; exact h); rw [hx1]; rfl
  rw [hea] at hg0
  have hrb := row_bd a
  have HR := Lib.hid (show tx R = t by
    rw [hte, hg, hg0, hhd, ← htt]
    congr 1
    by_cases c : a.k = 1 ∧ a.v.k = 2 ∧ 0 ≤ a.v.n
    · rw [if_pos c, if_pos (by simp [c.1, c.2.1, c.2.2])]
      unfold parT
      rw [decide_eq_false (by omega)]; rfl
    · rw [if_neg c, if_neg (by simp only [Bool.and_eq_true, decide_eq_true_iff]; exact c)])
  clear hg0 hhd hrb
  clear hx hr hi htab hm hI h9 hj hla hR hte hcell0 hcell0' hxa hra hia hb0 hea z1 z2 z3 z4 P hP hk ho hal hg hz hTa htt hpl
  change Hid (∀ w', Below w.heap.size w w' → ExAt w' B e [.int .i64 e.k, .int .i64 e.op, .string e.nm, .int .i64 e.v.k, .int .i64 e.v.n, .string e.v.s, .slice A1 e.v.l.length c1, .slice (some ad) e.ar.length c2]) at HXX
  rw [h1] at HXX
  show Calls Tryz.prog 25 #[.agg #[.int .i64 e.k, .int .i64 e.op, .string e.nm, .int .i64 e.v.k, .int .i64 e.v.n, .string e.v.s, .slice A1 e.v.l.length c1, .slice (some ad) e.ar.length c2]] w _
  rw [h1]
  clear h1
  go_enter Tryz.func25, Tryz.ntmps25
  go_upto_region 1 with (fail)
  obtain ⟨W, hW⟩ : ∃ W, W = (w.alloc (.cells #[.int .i64 e.k, .int .i64 e.op, .string e.nm, .int .i64 e.v.k, .int .i64 e.v.n, .string e.v.s, .slice A1 e.v.l.length c1, .slice (some ad) 1 c2] 27 (0, 0))) := ⟨_, rfl⟩
  have hbw : Below w.heap.size w W := by rw [hW]; exact ((Below.refl _ w).alloc (Nat.le_refl _) _)
  have B0 : Blk W (w.heap.size) 27 #[.int .i64 e.k, .int .i64 e.op, .string e.nm, .int .i64 e.v.k, .int .i64 e.v.n, .string e.v.s, .slice A1 e.v.l.length c1, .slice (some ad) 1 c2] := by
    rw [hW]
    have := Blk.new w 27 #[.int .i64 e.k, .int .i64 e.op, .string e.nm, .int .i64 e.v.k, .int .i64 e.v.n, .string e.v.s, .slice A1 e.v.l.length c1, .slice (some ad) 1 c2]
    exact this
  have hsz : W.heap.size = w.heap.size + 1 := by rw [hW]; simp
  rw [← hW]
  have ec0 : W.cell? ⟨w.heap.size, 0, none⟩ = some (.int .i64 e.k) := B0.cell 0
  have ec1 : W.cell? ⟨w.heap.size, 1, none⟩ = some (.int .i64 e.op) := B0.cell 1
  have ec2 : W.cell? ⟨w.heap.size, 2, none⟩ = some (.string e.nm) := B0.cell 2
  have ec3 : W.cell? ⟨w.heap.size, 3, none⟩ = some (.int .i64 e.v.k) := B0.cell 3
  have ec4 : W.cell? ⟨w.heap.size, 4, none⟩ = some (.int .i64 e.v.n) := B0.cell 4
  have ec5 : W.cell? ⟨w.heap.size, 5, none⟩ = some (.string e.v.s) := B0.cell 5
  have ec6 : W.cell? ⟨w.heap.size, 6, none⟩ = some (.slice A1 e.v.l.length c1) := B0.cell 6
  have ec7 : W.cell? ⟨w.heap.size, 7, none⟩ = some (.slice (some ad) 1 c2) := B0.cell 7
  have gc0 : W.cell? ad = some (.int .i64 a.k) := Below.cell_of hbw fc0
  have gc1 : W.cell? ⟨ad.block, ad.off + 1, none⟩ = some (.int .i64 a.op) := Below.cell_of hbw fc1
  have gc2 : W.cell? ⟨ad.block, ad.off + 2, none⟩ = some (.string a.nm) := Below.cell_of hbw fc2
  have gc3 : W.cell? ⟨ad.block, ad.off + 3, none⟩ = some (.int .i64 a.v.k) := Below.cell_of hbw fc3
  have gc4 : W.cell? ⟨ad.block, ad.off + 4, none⟩ = some (.int .i64 a.v.n) := Below.cell_of hbw fc4
  have gc5 : W.cell? ⟨ad.block, ad.off + 5, none⟩ = some (.string a.v.s) := Below.cell_of hbw fc5
  have gc6 : W.cell? ⟨ad.block, ad.off + 6, none⟩ = some (.slice A3 a.v.l.length c3) := Below.cell_of hbw fc6
  have gc7 : W.cell? ⟨ad.block, ad.off + 7, none⟩ = some (.slice A4 a.ar.length c4) := Below.cell_of hbw fc7
  clear hW hsz fc0 fc1 fc2 fc3 fc4 fc5 fc6 fc7
  go_wp2_with fail
  refine (row_any e B _ W (HXX.out W hbw)).mono ?_
  rw [HRN.out]
  rintro en W1 ⟨rfl, hb1⟩
  have hbw1 := hbw.trans (hb1.mono hbw.size)
  have B0 := B0.below hb1 B0.lt
  have hc0 := Below.cell_of hb1 gc0
  have hc1 := Below.cell_of hb1 gc1
  have hc2 := Below.cell_of hb1 gc2
  have hc3 := Below.cell_of hb1 gc3
  have hc4 := Below.cell_of hb1 gc4
  have hc5 := Below.cell_of hb1 gc5
  have hc6 := Below.cell_of hb1 gc6
  have hc7 := Below.cell_of hb1 gc7
  clear ec0 ec1 ec2 ec3 ec4 ec5 ec6 ec7 gc0 gc1 gc2 gc3 gc4 gc5 gc6 gc7 hb1
  have ec0 : W1.cell? ⟨w.heap.size, 0, none⟩ = some (.int .i64 e.k) := B0.cell 0
  have ec1 : W1.cell? ⟨w.heap.size, 1, none⟩ = some (.int .i64 e.op) := B0.cell 1
  have ec2 : W1.cell? ⟨w.heap.size, 2, none⟩ = some (.string e.nm) := B0.cell 2
  have ec3 : W1.cell? ⟨w.heap.size, 3, none⟩ = some (.int .i64 e.v.k) := B0.cell 3
  have ec4 : W1.cell? ⟨w.heap.size, 4, none⟩ = some (.int .i64 e.v.n) := B0.cell 4
  have ec5 : W1.cell? ⟨w.heap.size, 5, none⟩ = some (.string e.v.s) := B0.cell 5
  have ec6 : W1.cell? ⟨w.heap.size, 6, none⟩ = some (.slice A1 e.v.l.length c1) := B0.cell 6
  have ec7 : W1.cell? ⟨w.heap.size, 7, none⟩ = some (.slice (some ad) 1 c2) := B0.cell 7
  go_wp2_with fail
  refine (HJ.out W1 hbw1 _ (HCI.out.keep (hbw1.mono hB))).mono ?_
  rintro en W2 ⟨rfl, hb2⟩
  clear ec0 ec1 ec2 ec3 ec4 ec5 ec6 ec7 hc0 hc1 hc2 hc3 hc4 hc5 hc6 hc7 B0
  go_wp2_with fail
  go_ret
  exact ⟨by rw [HR.out]; try rfl, hbw1.trans (hb2.mono hbw1.size)⟩
set_option maxHeartbeats 4000000 in
set_option maxRecDepth 100000 in
theorem text_fun (e : Ex) (hk : e.k = 4) (ho : (12 ≤ e.op ∧ e.op ≤ 14) ∨ 21 ≤ e.op) (hI : ∀ a ∈ e.ar, TextSpec 25 a) (h9 : ∀ a ∈ e.ar, a.text.length ≤ 1000000000) (hj : ∀ l, ((insL l e.ar).map List.length).sum + 98 * e.ar.length ≤ 999999000) (hla : e.ar.length ≤ 999999) (hP : partF e = 0) (B : Nat) (cs : List Value) (w : World) (hx : ExAt w B e cs) (hB : B ≤ w.heap.size) (htab : Tab w) (hm : Mx w) :
    Calls Tryz.prog 25 #[.agg cs.toArray] w fun en w' => en = .returned (.string (tx (e.text))) ∧ Below w.heap.size w w' := by
  have P := partOk hP
  have HX := Lib.hid hx
  obtain ⟨R, hR⟩ : ∃ R, e.text = R := ⟨_, rfl⟩
  rw [hR]
  have hte := hR.symm.trans (text_eq e)
  have HTM := Lib.hid (fun w' (hb : Below w.heap.size w w') => And.intro (tabIs_below htab hb) (hm.below hb))
  obtain ⟨hn, hs, hl, ha, hx, hr, hi⟩ := hx
  rename_i A1 c1 A2 c2 cs
  have HXX := Lib.hid (fun w' (hb : Below w.heap.size w w') => HX.out.keep (hb.mono hB))
  have hk1 : (e.k == 1) = false := by rw [hk]; rfl
  have hk2 : (e.k == 2) = false := by rw [hk]; rfl
  have hk3 : (e.k == 3) = false := by rw [hk]; rfl
  have hk5 : (e.k == 5) = false := by rw [hk]; rfl
  rw [if_neg (by omega), if_neg (by omega), if_neg (by omega), if_neg (by omega)] at hte
  rw [if_neg (by omega), if_neg (by omega), if_neg (by omega), if_neg (by omega), if_neg (by omega), if_neg (by omega), if_neg (by omega)] at hte
  have HRN := Lib.hid (show rowN e = 8 by unfold rowN; rw [if_neg (by omega), if_neg (by omega)]; rw [if_neg (by omega), if_neg (by omega), if_neg (by omega), if_neg (by omega), if_neg (by omega), if_neg (by omega), if_neg (by omega)])
  have h10 := hj 1
  have hjl := join_len (insL 1 e.ar) [44, 32]
  rw [ins_len] at hjl
  simp only [List.length_cons, List.length_nil] at hjl
  have HJ := Lib.hid (fun w' (hb : Below w.heap.size w w') => joined_of e.ar [44, 32] 1 hI h9 (by omega) (by omega) A2 c2 B cs w' (hr.below (hb.mono hB)) (fun i h => (hi i h).keep (hb.mono hB)) (Nat.le_trans hB hb.size) (HTM.out w' hb).1 (HTM.out w' hb).2)
  obtain ⟨t, htt⟩ : ∃ t, tx (Lib.join (insL 1 e.ar) [44, 32]) = t := ⟨_, rfl⟩
  obtain ⟨tf, htf⟩ : ∃ t, tx (funcT e.op) = t := ⟨_, rfl⟩
  simp only [htt] at HJ
  have st : t.size ≤ 2000000000 := by rw [← htt, tx_size]; omega
  have sf : tf.size ≤ 8 := by rw [← htf, tx_size]; exact func_le e.op
  have HTF := Lib.hid htf
  have HR := Lib.hid (show tx R = tf ++ ⟨#[40]⟩ ++ t ++ ⟨#[41]⟩ by rw [hte, ← htt, ← htf, ← tx_cat, ← tx_cat, ← tx_cat]; rfl)
  clear hx hr hi htab hm hI h9 hj hla hR hte P hP hk ho h10 hjl htt htf
  show Calls Tryz.prog 25 #[.agg #[.int .i64 e.k, .int .i64 e.op, .string e.nm, .int .i64 e.v.k, .int .i64 e.v.n, .string e.v.s, .slice A1 e.v.l.length c1, .slice A2 e.ar.length c2]] w _
  go_enter Tryz.func25, Tryz.ntmps25
  go_upto_region 1 with (fail)
  obtain ⟨W, hW⟩ : ∃ W, W = (w.alloc (.cells #[.int .i64 e.k, .int .i64 e.op, .string e.nm, .int .i64 e.v.k, .int .i64 e.v.n, .string e.v.s, .slice A1 e.v.l.length c1, .slice A2 e.ar.length c2] 27 (0, 0))) := ⟨_, rfl⟩
  have hbw : Below w.heap.size w W := by rw [hW]; exact ((Below.refl _ w).alloc (Nat.le_refl _) _)
  have B0 : Blk W (w.heap.size) 27 #[.int .i64 e.k, .int .i64 e.op, .string e.nm, .int .i64 e.v.k, .int .i64 e.v.n, .string e.v.s, .slice A1 e.v.l.length c1, .slice A2 e.ar.length c2] := by
    rw [hW]
    have := Blk.new w 27 #[.int .i64 e.k, .int .i64 e.op, .string e.nm, .int .i64 e.v.k, .int .i64 e.v.n, .string e.v.s, .slice A1 e.v.l.length c1, .slice A2 e.ar.length c2]
    exact this
  have hsz : W.heap.size = w.heap.size + 1 := by rw [hW]; simp
  rw [← hW]
  have ec0 : W.cell? ⟨w.heap.size, 0, none⟩ = some (.int .i64 e.k) := B0.cell 0
  have ec1 : W.cell? ⟨w.heap.size, 1, none⟩ = some (.int .i64 e.op) := B0.cell 1
  have ec2 : W.cell? ⟨w.heap.size, 2, none⟩ = some (.string e.nm) := B0.cell 2
  have ec3 : W.cell? ⟨w.heap.size, 3, none⟩ = some (.int .i64 e.v.k) := B0.cell 3
  have ec4 : W.cell? ⟨w.heap.size, 4, none⟩ = some (.int .i64 e.v.n) := B0.cell 4
  have ec5 : W.cell? ⟨w.heap.size, 5, none⟩ = some (.string e.v.s) := B0.cell 5
  have ec6 : W.cell? ⟨w.heap.size, 6, none⟩ = some (.slice A1 e.v.l.length c1) := B0.cell 6
  have ec7 : W.cell? ⟨w.heap.size, 7, none⟩ = some (.slice A2 e.ar.length c2) := B0.cell 7
  clear hW hsz
  go_wp2_with fail
  refine (row_any e B _ W (HXX.out W hbw)).mono ?_
  rw [HRN.out]
  rintro en W1 ⟨rfl, hb1⟩
  have hbw1 := hbw.trans (hb1.mono hbw.size)
  have B0 := B0.below hb1 B0.lt
  clear ec0 ec1 ec2 ec3 ec4 ec5 ec6 ec7 hb1
  have K1 := Lib.hid (Later.call (W := W1) (show ∀ w', Below W1.heap.size W1 w' → Calls Tryz.prog 58 #[.slice A2 e.ar.length c2, .string ⟨#[44, 32]⟩, .int .i64 1] w' fun en w'' => en = .returned (.string t) ∧ Below w'.heap.size w' w'' from fun w' hb => HJ.out w' (hbw1.trans (hb.mono hbw1.size))))
  have K2 := Lib.hid (Later.call (W := W1) (show ∀ w', Below W1.heap.size W1 w' → Calls Tryz.prog 62 #[.int .i64 e.op] w' fun en w'' => en = .returned (.string tf) ∧ Below w'.heap.size w' w'' from fun w' hb => by have h := function_any e.op w'; rwa [HTF.out] at h))
  have q0 := Later.cell (show W1.cell? ⟨w.heap.size, 1, none⟩ = some (.int .i64 e.op) from B0.cell 1)
  have q1 := Later.cell (show W1.cell? ⟨w.heap.size, 7, none⟩ = some (.slice A2 e.ar.length c2) from B0.cell 7)
  clear B0 HJ
  go_upto_region 25 with (fail)
  refine wp_region_later (by kernel_rfl) (by kernel_rfl) ?_
  repeat (go_big_quiet_step (first | with_reducible exact K1.out _ | with_reducible exact K2.out _))
  refine wpQuiet_nil ?_
  intro W9 hw'
  have hb9 := later_h hw'
  clear hw'
  go_wp2_with fail
  go_ret
  exact ⟨by rw [HR.out]; try rfl, hbw1.trans (hb9.mono hbw1.size)⟩
end Go.Proofs.YtcmccjcelchlhaaGreatDoor
namespace Go.Proofs.YtcmccjcelchlhaaGreatDoor
open Go.RowKit Dig Vtx

theorem rep0 (k : Nat) : Lib.repeatL [48] k = zeros k := by
  induction k with
  | zero => rfl
  | succ k ih => rw [Lib.repeatL, ih]; rfl
theorem repeat_any (k : Nat) (w : World) (hk : k ≤ 1000) :
    Calls Tryz.prog 141 #[.string ⟨#[48]⟩, .int .i64 (k : Nat)] w fun e w' => (∃ t : ByteArray, e = .returned (.string t) ∧ t.data.toList = zeros k) ∧ Below w.heap.size w w' :=
  (Tryz.strings_Repeat ⟨#[48]⟩ k w (by omega) (by show 1 * k ≤ _; omega)).mono fun _ _ ⟨he, hb⟩ => ⟨⟨_, he, by rw [show (⟨#[48]⟩ : ByteArray).data.toList = [48] from rfl, rep0]⟩, hb⟩
set_option maxHeartbeats 1000000 in
theorem digits_any (n : Int) (W : Nat) (w : World) (h0 : 0 ≤ n) (h1 : n ≤ 9223372036854775807) (hW : W ≤ 20) (htab : Tab w) :
    Calls Tryz.prog 105 #[.int .i64 n, .int .i64 (W : Nat)] w fun e w' => (∃ t : ByteArray, e = .returned (.string t) ∧ t.data.toList = padT W n) ∧ Below w.heap.size w w' := by
  have HT := Lib.hid htab
  clear htab
  go_enter Tryz.func105, Tryz.ntmps105
  go_wp2_with fail
  refine (itoa_any n w (by omega) h1 HT.out).mono ?_
  rintro e w1 ⟨⟨t0, rfl, ht0⟩, hb1⟩
  have hsz : t0.size ≤ 20 := by
    rw [dsize ht0]
    obtain ⟨m, rfl⟩ : ∃ m : Nat, n = m := ⟨n.toNat, by omega⟩
    rw [itoa_nat]
    have := dec_len 18 m (by omega)
    omega
  have HP := Lib.hid (show padT W n = zeros (W - t0.size) ++ t0.data.toList by unfold padT; rw [ht0, dsize ht0])
  clear ht0
  go_wp2_with fail
  rw [show max ((W : Int) - t0.size) 0 = ((W - t0.size : Nat) : Int) from by omega]
  refine (repeat_any _ w1 (by omega)).mono ?_
  rintro e w2 ⟨⟨z, rfl, hz⟩, hb2⟩
  have HZ := Lib.hid hz
  have hbw := hb1.trans (hb2.mono hb1.size)
  have hzl : z.size ≤ 20 := by rw [dsize hz]; simp [zeros]; omega
  clear hz hb1 hb2
  go_wp2
  go_ret
  exact ⟨⟨_, rfl, by rw [HP.out, toList_app, HZ.out]⟩, hbw⟩
set_option maxHeartbeats 1000000 in
theorem decimal_any (n : Int) (w : World) (h1 : -999999999999999 ≤ n) (h2 : n ≤ 999999999999999) (htab : Tab w) :
    Calls Tryz.prog 103 #[.int .i64 n] w fun e w' => (∃ t : ByteArray, e = .returned (.string t) ∧ t.data.toList = numT n) ∧ Below w.heap.size w w' := by
  have HT := Lib.hid htab
  clear htab
  obtain ⟨a, ha⟩ : ∃ a, absI n = a := ⟨_, rfl⟩
  have hab : 0 ≤ a ∧ a ≤ 999999999999999 := by rw [← ha]; unfold absI; split <;> omega
  obtain ⟨ha0, ha1⟩ := hab
  obtain ⟨F, hF⟩ : ∃ F, a / 10000 = F := ⟨_, rfl⟩
  obtain ⟨M, hM⟩ : ∃ M, a % 10000 = M := ⟨_, rfl⟩
  have hF0 : 0 ≤ F := by omega
  have hF1 : F ≤ 99999999999 := by omega
  have hM0 : 0 ≤ M := by omega
  have hM1 : M < 10000 := by omega
  have HN := Lib.hid (show numT n = (if n < 0 then [45] else []) ++ Lib.itoa F ++ (if fracT M = [] then [] else 46 :: fracT M) by unfold numT; rw [ha, hF, hM])
  have HI := Lib.hid (show (Lib.itoa F).length ≤ 11 by
    obtain ⟨m, rfl⟩ : ∃ m : Nat, F = m := ⟨F.toNat, by omega⟩
    rw [itoa_nat]
    exact dec_len 10 m (by omega))
  have HFR := Lib.hid (show (padT 4 M).length = 4 ∧ (fracT M).length ≤ 4 ∧ (fracT M = [] ↔ M = 0) by
    obtain ⟨m, rfl⟩ : ∃ m : Nat, M = m := ⟨M.toNat, by omega⟩
    refine ⟨pad_len (dec_len 3 m (by omega)), (frac_pad (by omega)).2, ?_⟩
    rw [frac_nil (by omega)]; omega)
  have HA := Lib.hid ha
  have HFD := Lib.hid hF
  have HMD := Lib.hid hM
  clear ha hF hM
  go_enter Tryz.func103, Tryz.ntmps103
  go_upto_if 6 with (fail)
  go_cut [0, 3] (fun v s wx => v = .int .i64 a ∧ (∃ sg : ByteArray, s = .string sg ∧ Hid (sg.data.toList = if n < 0 then [45] else []) ∧ sg.size ≤ 1) ∧ wx = w)
  case first =>
    by_cases hn : n < 0
    · have hx := Lib.hid (show a = -n by rw [← HA.out]; unfold absI; rw [if_pos hn])
      go_wp2_with (fail)
      go_meet
      exact ⟨by rw [hx.out], ⟨_, rfl, Lib.hid (by rw [if_pos (by omega)]), by decide⟩, rfl⟩
    · have hx := Lib.hid (show a = n by rw [← HA.out]; unfold absI; rw [if_neg hn])
      go_wp2_with (fail)
      go_meet
      exact ⟨by rw [hx.out], ⟨_, rfl, Lib.hid (by rw [if_neg (by omega)]), by decide⟩, rfl⟩
  case rest =>
  obtain ⟨rfl, ⟨sg, rfl, HS, hsg⟩, rfl⟩ := hcut
  have eF : a / 10000 = F := HFD.out
  have eM : a % 10000 = M := HMD.out
  go_wp2_with fail
  refine (itoa_any F _ (by omega) (by omega) HT.out).mono ?_
  rintro e w1 ⟨⟨tf, rfl, htf⟩, hb1⟩
  have htl : tf.size ≤ 11 := by rw [dsize htf]; exact HI.out
  have HTF := Lib.hid htf
  have HT1 := Lib.hid (HT.out.below hb1)
  clear htf
  by_cases h0 : M = 0
  · have HE := Lib.hid (HFR.out.2.2.2 h0)
    subst h0
    go_wp2
    go_ret
    exact ⟨⟨_, rfl, by rw [HN.out, toList_app, HS.out, HTF.out, if_pos HE.out, List.append_nil]⟩, hb1⟩
  have HE := Lib.hid (show fracT M ≠ [] from fun e => h0 (HFR.out.2.2.1 e))
  go_wp2_with fail
  refine (digits_any M 4 w1 hM0 (by omega) (by omega) HT1.out).mono ?_
  rintro e w2 ⟨⟨tm, rfl, htm⟩, hb2⟩
  have html : tm.size ≤ 4 := by rw [dsize htm, HFR.out.1]; exact Nat.le_refl _
  have HTM := Lib.hid htm
  have hbw := hb1.trans (hb2.mono hb1.size)
  clear htm hb1 hb2
  go_wp2_with fail
  refine (trim_right0 tm w2 (by omega)).mono ?_
  rintro e w3 ⟨⟨u, rfl, hu⟩, rfl⟩
  rw [HTM.out] at hu
  have hul : u.size ≤ 4 := by rw [dsize hu]; exact HFR.out.2.1
  have HU := Lib.hid (show u.data.toList = fracT M from hu)
  clear hu
  go_wp2
  go_ret
  exact ⟨⟨_, rfl, by rw [HN.out, toList_app, toList_app, toList_app, HS.out, HTF.out, if_neg HE.out, HU.out]; simp⟩, hbw⟩
theorem reason_any (n : Int) (w : World) (h1 : 1 ≤ n) (h2 : n ≤ 3) :
    Calls Tryz.prog 102 #[.int .i64 n] w fun e w' => e = .returned (.string ⟨(wordT n).toArray⟩) ∧ w = w' := by
  obtain rfl | rfl | rfl : n = 1 ∨ n = 2 ∨ n = 3 := by omega
  all_goals
    go_enter Tryz.func102, Tryz.ntmps102
    go_wp2
    go_ret
    exact ⟨rfl, rfl⟩
end Go.Proofs.YtcmccjcelchlhaaGreatDoor
namespace Go.Proofs.YtcmccjcelchlhaaGreatDoor
open Go.RowKit Dig Vtx

theorem joinTail_snoc (sep : List UInt8) (r : List (List UInt8)) (p : List UInt8) : Lib.joinTail sep (r ++ [p]) = Lib.joinTail sep r ++ (sep ++ p) := by simp [Lib.joinTail]
theorem join_snoc (ps : List (List UInt8)) (p : List UInt8) (sep : List UInt8) : Lib.join (ps ++ [p]) sep = Lib.join ps sep ++ (if ps = [] then [] else sep) ++ p := by
  cases ps with
  | nil => simp [Lib.join_nil, Lib.join_one]
  | cons a r => rw [List.cons_append, Lib.join_cons, Lib.join_cons, joinTail_snoc]; simp
/-- a set's text so far -/
def setK (l : List Int) (k : Nat) : List UInt8 := 123 :: Lib.join ((l.take k).map codeT) [44]
theorem setK_zero (l : List Int) : setK l 0 = [123] := rfl
theorem setK_snoc {l : List Int} {k : Nat} (h : k < l.length) : setK l (k + 1) = setK l k ++ (if k = 0 then [] else [44]) ++ codeT l[k] := by
  unfold setK
  rw [List.take_succ_eq_append_getElem h, List.map_append, List.map_cons, List.map_nil, join_snoc]
  have e : ((l.take k).map codeT = []) ↔ k = 0 := by
    rw [List.map_eq_nil_iff, List.take_eq_nil_iff]
    constructor
    · rintro (h0 | h0)
      · exact h0
      · subst h0; simp at h
    · exact Or.inl
  by_cases hk : k = 0
  · rw [if_pos (e.2 hk), if_pos hk]; simp
  · rw [if_neg (fun h => hk (e.1 h)), if_neg hk]; simp
theorem setK_all {l : List Int} {k : Nat} (h : l.length ≤ k) : setK l k ++ [125] = setT l := by
  unfold setK setT
  rw [List.take_of_length_le h]
theorem itoa_code {x : Int} (h1 : 1 ≤ x) (h2 : x ≤ 999) : (Lib.itoa x).length ≤ 3 := by
  obtain ⟨m, rfl⟩ : ∃ m : Nat, x = m := ⟨x.toNat, by omega⟩
  rw [itoa_nat]
  exact dec_len 2 m (by omega)
def RS (w : World) (S : List UInt8) (e : Ending) (w' : World) : Prop := (∃ t : ByteArray, e = .returned (.tuple #[.string t, .int .i64 0]) ∧ t.data.toList = S) ∧ Below w.heap.size w w'
set_option maxHeartbeats 4000000 in
set_option maxRecDepth 100000 in
theorem rshow_any (k n : Int) (s : ByteArray) (l : List Int) (S : List UInt8) (A : Option Addr) (c B1 : Nat) (w : World) (hS : s.data.toList = S) (hq : Snd k n S l) (hck : checkV ⟨k, n, s, l⟩ = 0) (hl : l.length ≤ 40) (hs : s.size ≤ 200)
    (hx : Reads w w.heap.size 1 A l.length (numV .i64 l)) (htab : Tab w) (hm : Mx w) :
    Calls Tryz.prog 63 #[.agg #[.int .i64 k, .int .i64 n, .string s, .slice A l.length c]] w (RS w (showT k n S l)) := by
  have HT := Lib.hid htab
  have HM := Lib.hid hm
  have HX := Lib.hid hx
  have HS := Lib.hid hS
  have HCK := Lib.hid hck
  clear htab hm hx hS hck
  cases hq with
  | none_ =>
    have HK := Lib.hid (fun w' h1 h2 => rcheck_any ⟨0, 0, s, ([] : List Int)⟩ A c w.heap.size w' (by show (([] : List Int) : List Int).length ≤ _; unfold maxLen; first | omega | (simp; done)) (by show (s : ByteArray).size ≤ _; unfold maxLen; omega) h1 h2)
    go_enter Tryz.func63, Tryz.ntmps63
    go_wp2_with fail
    obtain ⟨W, hW⟩ : ∃ W, W = (w.alloc (.cells #[.int .i64 0, .int .i64 0, .string s, .slice A 0 c] 24 (0, 0))) := ⟨_, rfl⟩
    have hbw : Below w.heap.size w W := by rw [hW]; exact ((Below.refl _ w).alloc (Nat.le_refl _) _)
    have B0 : Blk W (w.heap.size) 24 #[.int .i64 0, .int .i64 0, .string s, .slice A 0 c] := by
      rw [hW]
      have := Blk.new w 24 #[.int .i64 0, .int .i64 0, .string s, .slice A 0 c]
      exact this
    have hsz : W.heap.size = w.heap.size + 1 := by rw [hW]; simp
    rw [← hW]
    clear hW hsz
    refine (HK.out W (HX.out.below hbw) hbw.size).mono ?_
    rintro e w1 ⟨rfl, hb1⟩
    rw [HCK.out]
    have B0 := B0.below hb1 B0.lt
    have hbw := hbw.trans (hb1.mono hbw.size)
    clear hb1 HK
    have vc0 : w1.cell? ⟨w.heap.size, 0, none⟩ = some (.int .i64 0) := B0.cell 0
    have vc1 : w1.cell? ⟨w.heap.size, 1, none⟩ = some (.int .i64 0) := B0.cell 1
    have vc2 : w1.cell? ⟨w.heap.size, 2, none⟩ = some (.string s) := B0.cell 2
    have vc3 : w1.cell? ⟨w.heap.size, 3, none⟩ = some (.slice A 0 c) := B0.cell 3
    go_wp2
    go_ret2
    exact ⟨⟨_, rfl, rfl⟩, hbw⟩
  | word h1 h2 =>
    have HK := Lib.hid (fun w' h1 h2 => rcheck_any ⟨1, n, s, ([] : List Int)⟩ A c w.heap.size w' (by show (([] : List Int) : List Int).length ≤ _; unfold maxLen; first | omega | (simp; done)) (by show (s : ByteArray).size ≤ _; unfold maxLen; omega) h1 h2)
    go_enter Tryz.func63, Tryz.ntmps63
    go_wp2_with fail
    obtain ⟨W, hW⟩ : ∃ W, W = (w.alloc (.cells #[.int .i64 1, .int .i64 n, .string s, .slice A 0 c] 24 (0, 0))) := ⟨_, rfl⟩
    have hbw : Below w.heap.size w W := by rw [hW]; exact ((Below.refl _ w).alloc (Nat.le_refl _) _)
    have B0 : Blk W (w.heap.size) 24 #[.int .i64 1, .int .i64 n, .string s, .slice A 0 c] := by
      rw [hW]
      have := Blk.new w 24 #[.int .i64 1, .int .i64 n, .string s, .slice A 0 c]
      exact this
    have hsz : W.heap.size = w.heap.size + 1 := by rw [hW]; simp
    rw [← hW]
    clear hW hsz
    refine (HK.out W (HX.out.below hbw) hbw.size).mono ?_
    rintro e w1 ⟨rfl, hb1⟩
    rw [HCK.out]
    have B0 := B0.below hb1 B0.lt
    have hbw := hbw.trans (hb1.mono hbw.size)
    clear hb1 HK
    have vc0 : w1.cell? ⟨w.heap.size, 0, none⟩ = some (.int .i64 1) := B0.cell 0
    have vc1 : w1.cell? ⟨w.heap.size, 1, none⟩ = some (.int .i64 n) := B0.cell 1
    have vc2 : w1.cell? ⟨w.heap.size, 2, none⟩ = some (.string s) := B0.cell 2
    have vc3 : w1.cell? ⟨w.heap.size, 3, none⟩ = some (.slice A 0 c) := B0.cell 3
    go_wp2_with fail
    refine (reason_any n _ h1 h2).mono ?_
    rintro e w2 ⟨rfl, rfl⟩
    go_wp2
    go_ret2
    exact ⟨⟨_, rfl, rfl⟩, hbw⟩
  | num h1 h2 =>
    have HR := Lib.hid (fun w' => decimal_any n w' h1 h2)
    have HK := Lib.hid (fun w' h1 h2 => rcheck_any ⟨2, n, s, ([] : List Int)⟩ A c w.heap.size w' (by show (([] : List Int) : List Int).length ≤ _; unfold maxLen; first | omega | (simp; done)) (by show (s : ByteArray).size ≤ _; unfold maxLen; omega) h1 h2)
    go_enter Tryz.func63, Tryz.ntmps63
    go_wp2_with fail
    obtain ⟨W, hW⟩ : ∃ W, W = (w.alloc (.cells #[.int .i64 2, .int .i64 n, .string s, .slice A 0 c] 24 (0, 0))) := ⟨_, rfl⟩
    have hbw : Below w.heap.size w W := by rw [hW]; exact ((Below.refl _ w).alloc (Nat.le_refl _) _)
    have B0 : Blk W (w.heap.size) 24 #[.int .i64 2, .int .i64 n, .string s, .slice A 0 c] := by
      rw [hW]
      have := Blk.new w 24 #[.int .i64 2, .int .i64 n, .string s, .slice A 0 c]
      exact this
    have hsz : W.heap.size = w.heap.size + 1 := by rw [hW]; simp
    rw [← hW]
    clear hW hsz
    refine (HK.out W (HX.out.below hbw) hbw.size).mono ?_
    rintro e w1 ⟨rfl, hb1⟩
    rw [HCK.out]
    have B0 := B0.below hb1 B0.lt
    have hbw := hbw.trans (hb1.mono hbw.size)
    clear hb1 HK
    have vc0 : w1.cell? ⟨w.heap.size, 0, none⟩ = some (.int .i64 2) := B0.cell 0
    have vc1 : w1.cell? ⟨w.heap.size, 1, none⟩ = some (.int .i64 n) := B0.cell 1
    have vc2 : w1.cell? ⟨w.heap.size, 2, none⟩ = some (.string s) := B0.cell 2
    have vc3 : w1.cell? ⟨w.heap.size, 3, none⟩ = some (.slice A 0 c) := B0.cell 3
    go_wp2_with fail
    refine (HR.out _ (HT.out.below hbw)).mono ?_
    rintro e w2 ⟨⟨t, rfl, ht⟩, hb⟩
    have hbw := hbw.trans (hb.mono hbw.size)
    have HTT := Lib.hid ht
    clear ht hb
    go_wp2
    go_ret2
    exact ⟨⟨_, rfl, HTT.out⟩, hbw⟩
  | text S =>
    have HK := Lib.hid (fun w' h1 h2 => rcheck_any ⟨3, 0, s, ([] : List Int)⟩ A c w.heap.size w' (by show (([] : List Int) : List Int).length ≤ _; unfold maxLen; first | omega | (simp; done)) (by show (s : ByteArray).size ≤ _; unfold maxLen; omega) h1 h2)
    go_enter Tryz.func63, Tryz.ntmps63
    go_wp2_with fail
    obtain ⟨W, hW⟩ : ∃ W, W = (w.alloc (.cells #[.int .i64 3, .int .i64 0, .string s, .slice A 0 c] 24 (0, 0))) := ⟨_, rfl⟩
    have hbw : Below w.heap.size w W := by rw [hW]; exact ((Below.refl _ w).alloc (Nat.le_refl _) _)
    have B0 : Blk W (w.heap.size) 24 #[.int .i64 3, .int .i64 0, .string s, .slice A 0 c] := by
      rw [hW]
      have := Blk.new w 24 #[.int .i64 3, .int .i64 0, .string s, .slice A 0 c]
      exact this
    have hsz : W.heap.size = w.heap.size + 1 := by rw [hW]; simp
    rw [← hW]
    clear hW hsz
    refine (HK.out W (HX.out.below hbw) hbw.size).mono ?_
    rintro e w1 ⟨rfl, hb1⟩
    rw [HCK.out]
    have B0 := B0.below hb1 B0.lt
    have hbw := hbw.trans (hb1.mono hbw.size)
    clear hb1 HK
    have vc0 : w1.cell? ⟨w.heap.size, 0, none⟩ = some (.int .i64 3) := B0.cell 0
    have vc1 : w1.cell? ⟨w.heap.size, 1, none⟩ = some (.int .i64 0) := B0.cell 1
    have vc2 : w1.cell? ⟨w.heap.size, 2, none⟩ = some (.string s) := B0.cell 2
    have vc3 : w1.cell? ⟨w.heap.size, 3, none⟩ = some (.slice A 0 c) := B0.cell 3
    go_wp2_with fail
    refine (replaceAll_any s ⟨#[39]⟩ ⟨#[39, 39]⟩ _ (by omega) (Nat.le_refl 1) (Nat.le_refl 2) (HM.out.below hbw)).mono ?_
    rintro e w2 ⟨⟨t, rfl, ht⟩, hb⟩
    rw [HS.out] at ht
    have hbw := hbw.trans (hb.mono hbw.size)
    have HTT := Lib.hid (show t.data.toList = Lib.replaceAll S [39] [39, 39] from ht)
    have htl : t.size ≤ 2000 := by
      rw [dsize HTT.out]
      have h1 := esc_len S
      have h2 : S.length = s.size := by rw [← HS.out]; rfl
      omega
    clear ht hb
    go_wp2
    go_ret2
    exact ⟨⟨_, rfl, by rw [toList_app, toList_app, HTT.out]; rfl⟩, hbw⟩
  | code h1 h2 =>
    have HK := Lib.hid (fun w' h1 h2 => rcheck_any ⟨4, n, s, ([] : List Int)⟩ A c w.heap.size w' (by show (([] : List Int) : List Int).length ≤ _; unfold maxLen; first | omega | (simp; done)) (by show (s : ByteArray).size ≤ _; unfold maxLen; omega) h1 h2)
    go_enter Tryz.func63, Tryz.ntmps63
    go_wp2_with fail
    obtain ⟨W, hW⟩ : ∃ W, W = (w.alloc (.cells #[.int .i64 4, .int .i64 n, .string s, .slice A 0 c] 24 (0, 0))) := ⟨_, rfl⟩
    have hbw : Below w.heap.size w W := by rw [hW]; exact ((Below.refl _ w).alloc (Nat.le_refl _) _)
    have B0 : Blk W (w.heap.size) 24 #[.int .i64 4, .int .i64 n, .string s, .slice A 0 c] := by
      rw [hW]
      have := Blk.new w 24 #[.int .i64 4, .int .i64 n, .string s, .slice A 0 c]
      exact this
    have hsz : W.heap.size = w.heap.size + 1 := by rw [hW]; simp
    rw [← hW]
    clear hW hsz
    refine (HK.out W (HX.out.below hbw) hbw.size).mono ?_
    rintro e w1 ⟨rfl, hb1⟩
    rw [HCK.out]
    have B0 := B0.below hb1 B0.lt
    have hbw := hbw.trans (hb1.mono hbw.size)
    clear hb1 HK
    have vc0 : w1.cell? ⟨w.heap.size, 0, none⟩ = some (.int .i64 4) := B0.cell 0
    have vc1 : w1.cell? ⟨w.heap.size, 1, none⟩ = some (.int .i64 n) := B0.cell 1
    have vc2 : w1.cell? ⟨w.heap.size, 2, none⟩ = some (.string s) := B0.cell 2
    have vc3 : w1.cell? ⟨w.heap.size, 3, none⟩ = some (.slice A 0 c) := B0.cell 3
    go_wp2_with fail
    refine (itoa_any n _ (by omega) (by omega) (HT.out.below hbw)).mono ?_
    rintro e w2 ⟨⟨t, rfl, ht⟩, hb⟩
    have hbw := hbw.trans (hb.mono hbw.size)
    have HTT := Lib.hid ht
    have htl : t.size ≤ 20 := by rw [dsize ht]; have := itoa_code h1 h2; omega
    clear ht hb
    go_wp2
    go_ret2
    exact ⟨⟨_, rfl, by rw [toList_app, HTT.out]; rfl⟩, hbw⟩
  | set h =>
    have HC := Lib.hid h
    clear h
    have HK := Lib.hid (fun w' h1 h2 => rcheck_any ⟨5, 0, s, l⟩ A c w.heap.size w' (by show (l : List Int).length ≤ _; unfold maxLen; first | omega | (simp; done)) (by show (s : ByteArray).size ≤ _; unfold maxLen; omega) h1 h2)
    go_enter Tryz.func63, Tryz.ntmps63
    go_wp2_with fail
    obtain ⟨W, hW⟩ : ∃ W, W = (w.alloc (.cells #[.int .i64 5, .int .i64 0, .string s, .slice A l.length c] 24 (0, 0))) := ⟨_, rfl⟩
    have hbw : Below w.heap.size w W := by rw [hW]; exact ((Below.refl _ w).alloc (Nat.le_refl _) _)
    have B0 : Blk W (w.heap.size) 24 #[.int .i64 5, .int .i64 0, .string s, .slice A l.length c] := by
      rw [hW]
      have := Blk.new w 24 #[.int .i64 5, .int .i64 0, .string s, .slice A l.length c]
      exact this
    have hsz : W.heap.size = w.heap.size + 1 := by rw [hW]; simp
    rw [← hW]
    clear hW hsz
    refine (HK.out W (HX.out.below hbw) hbw.size).mono ?_
    rintro e w1 ⟨rfl, hb1⟩
    rw [HCK.out]
    have B0 := B0.below hb1 B0.lt
    have hbw := hbw.trans (hb1.mono hbw.size)
    clear hb1 HK
    have vc0 : w1.cell? ⟨w.heap.size, 0, none⟩ = some (.int .i64 5) := B0.cell 0
    have vc1 : w1.cell? ⟨w.heap.size, 1, none⟩ = some (.int .i64 0) := B0.cell 1
    have vc2 : w1.cell? ⟨w.heap.size, 2, none⟩ = some (.string s) := B0.cell 2
    have vc3 : w1.cell? ⟨w.heap.size, 3, none⟩ = some (.slice A l.length c) := B0.cell 3
    go_wp2
    go_loopw [5, 6, 7, 47] (fun v u6 u7 i wr => ∃ (k : Nat) (t : ByteArray), k ≤ l.length ∧ i = .int .i64 k ∧ v = .string t ∧ Hid (t.data.toList = setK l k) ∧ t.size ≤ 1 + 5 * k ∧ Below w.heap.size w wr) (fun _ _ _ i _ => l.length - (intOf i).toNat)
    case atStart => exact ⟨0, _, Nat.zero_le _, rfl, rfl, Lib.hid rfl, Nat.le_refl _, hbw⟩
    case round =>
      obtain ⟨k, t, hk, rfl, rfl, HTT, htl, hbr⟩ := hrel
      have hsr := hbr.size
      by_cases hlt : k < l.length
      · obtain ⟨ad, u, rfl, hb, hu, hcell⟩ := (HX.out.below hbr).at_ hlt
        obtain ⟨hkl, rfl⟩ := numV_get _ _ _ _ hu
        obtain ⟨x, hx⟩ : ∃ x, l[k] = x := ⟨_, rfl⟩
        have hxc := HC.out l[k] (List.getElem_mem hkl)
        rw [hx] at hxc hcell
        obtain ⟨hx1, hx2⟩ := hxc
        have HK := Lib.hid (setK_snoc hkl)
        rw [hx] at HK
        have HT1 := Lib.hid (HT.out.below hbr)
        clear hu hx
        by_cases h0 : k = 0
        · have HK0 := Lib.hid (show setK l 1 = setK l 0 ++ codeT x by have h := HK.out; rw [h0] at h; simpa using h)
          subst h0
          have hc0 : wr.cell? ad = some (.int .i64 x) := by have h := hcell; simp only [Addr.add, if_true] at h; exact h
          go_wp2_with fail
          refine (itoa_any x wr (by omega) (by omega) HT1.out).mono ?_
          rintro e w2 ⟨⟨t2, rfl, ht2⟩, hb2⟩
          have htl2 : t2.size ≤ 3 := by rw [dsize ht2]; exact itoa_code hx1 hx2
          have HT2 := Lib.hid ht2
          have hbr2 := hbr.trans (hb2.mono hsr)
          clear ht2 hb2 hcell HK hc0
          go_wp2
          go_roundw
          case rel => exact ⟨1, _, by omega, rfl, rfl, Lib.hid (by rw [toList_app, toList_app, HTT.out, HT2.out, HK0.out]; rfl), by rw [ByteArray.size_append, ByteArray.size_append]; show _ + (1 + _) ≤ _; omega, hbr2⟩
          case measure => simp [intOf]; omega
        · have HK0 := Lib.hid (show setK l (k + 1) = setK l k ++ [44] ++ codeT x by have h := HK.out; rwa [if_neg h0] at h)
          have hk1 : 0 < k := by omega
          clear h0
          go_wp2_with fail
          refine (itoa_any x wr (by omega) (by omega) HT1.out).mono ?_
          rintro e w2 ⟨⟨t2, rfl, ht2⟩, hb2⟩
          have htl2 : t2.size ≤ 3 := by rw [dsize ht2]; exact itoa_code hx1 hx2
          have HT2 := Lib.hid ht2
          have hbr2 := hbr.trans (hb2.mono hsr)
          clear ht2 hb2 hcell HK
          go_wp2
          go_roundw
          case rel => exact ⟨k + 1, _, by omega, by go_num, rfl, Lib.hid (by rw [toList_app, toList_app, toList_app, HTT.out, HT2.out, HK0.out]; rfl), by rw [ByteArray.size_append, ByteArray.size_append, ByteArray.size_append]; show _ + 1 + (1 + _) ≤ _; omega, hbr2⟩
          case measure => simp [intOf]; omega
      · have HF := Lib.hid (setK_all (l := l) (k := k) (by omega))
        go_wp2
        go_ret2
        exact ⟨⟨_, rfl, by rw [toList_app, HTT.out]; exact HF.out⟩, hbr⟩
  | day h1 h2 =>
    obtain ⟨y, m, d, ey, em, ed, hy, hmm, hd, hok, hn⟩ := day_parts h1 h2
    have HY := Lib.hid (And.intro ey (And.intro em ed))
    have HL := Lib.hid (And.intro (pad_len (w := 4) (n := y) (dec_len 3 y hy)) (And.intro (pad_len (w := 2) (n := m) (dec_len 1 m hmm)) (pad_len (w := 2) (n := d) (dec_len 1 d hd))))
    have HCV := Lib.hid (fun w' => RCivil_in n w' h1 h2)
    clear ey em ed hok hn
    have HK := Lib.hid (fun w' h1 h2 => rcheck_any ⟨6, n, s, ([] : List Int)⟩ A c w.heap.size w' (by show (([] : List Int) : List Int).length ≤ _; unfold maxLen; first | omega | (simp; done)) (by show (s : ByteArray).size ≤ _; unfold maxLen; omega) h1 h2)
    go_enter Tryz.func63, Tryz.ntmps63
    go_wp2_with fail
    obtain ⟨W, hW⟩ : ∃ W, W = (w.alloc (.cells #[.int .i64 6, .int .i64 n, .string s, .slice A 0 c] 24 (0, 0))) := ⟨_, rfl⟩
    have hbw : Below w.heap.size w W := by rw [hW]; exact ((Below.refl _ w).alloc (Nat.le_refl _) _)
    have B0 : Blk W (w.heap.size) 24 #[.int .i64 6, .int .i64 n, .string s, .slice A 0 c] := by
      rw [hW]
      have := Blk.new w 24 #[.int .i64 6, .int .i64 n, .string s, .slice A 0 c]
      exact this
    have hsz : W.heap.size = w.heap.size + 1 := by rw [hW]; simp
    rw [← hW]
    clear hW hsz
    refine (HK.out W (HX.out.below hbw) hbw.size).mono ?_
    rintro e w1 ⟨rfl, hb1⟩
    rw [HCK.out]
    have B0 := B0.below hb1 B0.lt
    have hbw := hbw.trans (hb1.mono hbw.size)
    clear hb1 HK
    have vc0 : w1.cell? ⟨w.heap.size, 0, none⟩ = some (.int .i64 6) := B0.cell 0
    have vc1 : w1.cell? ⟨w.heap.size, 1, none⟩ = some (.int .i64 n) := B0.cell 1
    have vc2 : w1.cell? ⟨w.heap.size, 2, none⟩ = some (.string s) := B0.cell 2
    have vc3 : w1.cell? ⟨w.heap.size, 3, none⟩ = some (.slice A 0 c) := B0.cell 3
    go_wp2_with fail
    refine (HCV.out _).mono ?_
    rw [HY.out.1, HY.out.2.1, HY.out.2.2]
    rintro e w2 ⟨rfl, rfl⟩
    go_wp2_with fail
    refine (digits_any y 4 _ (by omega) (by omega) (by omega) (HT.out.below hbw)).mono ?_
    rintro e w2 ⟨⟨t1, rfl, ht1⟩, hb1⟩
    have hbw := hbw.trans (hb1.mono hbw.size)
    have HT1 := Lib.hid ht1
    have hl1 : t1.size ≤ 4 := by rw [dsize ht1, HL.out.1]; exact Nat.le_refl _
    clear ht1 hb1 vc0 vc1 vc2 vc3
    go_wp2_with fail
    refine (digits_any m 2 w2 (by omega) (by omega) (by omega) (HT.out.below hbw)).mono ?_
    rintro e w3 ⟨⟨t2, rfl, ht2⟩, hb2⟩
    have hbw := hbw.trans (hb2.mono hbw.size)
    have HT2 := Lib.hid ht2
    have hl2 : t2.size ≤ 2 := by rw [dsize ht2, HL.out.2.1]; exact Nat.le_refl _
    clear ht2 hb2
    go_wp2_with fail
    refine (digits_any d 2 w3 (by omega) (by omega) (by omega) (HT.out.below hbw)).mono ?_
    rintro e w4 ⟨⟨t3, rfl, ht3⟩, hb3⟩
    have hbw := hbw.trans (hb3.mono hbw.size)
    have HT3 := Lib.hid ht3
    have hl3 : t3.size ≤ 2 := by rw [dsize ht3, HL.out.2.2]; exact Nat.le_refl _
    clear ht3 hb3
    go_wp2
    go_ret2
    exact ⟨⟨_, rfl, by
      rw [toList_app, toList_app, toList_app, toList_app, toList_app, HT1.out, HT2.out, HT3.out]
      show _ = dayT n
      unfold dayT
      rw [HY.out.1, HY.out.2.1, HY.out.2.2]
      rfl⟩, hbw⟩
  | bool h1 h2 =>
    obtain rfl | rfl : n = 0 ∨ n = 1 := by omega
    ·
      have HK := Lib.hid (fun w' h1 h2 => rcheck_any ⟨7, 0, s, ([] : List Int)⟩ A c w.heap.size w' (by show (([] : List Int) : List Int).length ≤ _; unfold maxLen; first | omega | (simp; done)) (by show (s : ByteArray).size ≤ _; unfold maxLen; omega) h1 h2)
      go_enter Tryz.func63, Tryz.ntmps63
      go_wp2_with fail
      obtain ⟨W, hW⟩ : ∃ W, W = (w.alloc (.cells #[.int .i64 7, .int .i64 0, .string s, .slice A 0 c] 24 (0, 0))) := ⟨_, rfl⟩
      have hbw : Below w.heap.size w W := by rw [hW]; exact ((Below.refl _ w).alloc (Nat.le_refl _) _)
      have B0 : Blk W (w.heap.size) 24 #[.int .i64 7, .int .i64 0, .string s, .slice A 0 c] := by
        rw [hW]
        have := Blk.new w 24 #[.int .i64 7, .int .i64 0, .string s, .slice A 0 c]
        exact this
      have hsz : W.heap.size = w.heap.size + 1 := by rw [hW]; simp
      rw [← hW]
      clear hW hsz
      refine (HK.out W (HX.out.below hbw) hbw.size).mono ?_
      rintro e w1 ⟨rfl, hb1⟩
      rw [HCK.out]
      have B0 := B0.below hb1 B0.lt
      have hbw := hbw.trans (hb1.mono hbw.size)
      clear hb1 HK
      have vc0 : w1.cell? ⟨w.heap.size, 0, none⟩ = some (.int .i64 7) := B0.cell 0
      have vc1 : w1.cell? ⟨w.heap.size, 1, none⟩ = some (.int .i64 0) := B0.cell 1
      have vc2 : w1.cell? ⟨w.heap.size, 2, none⟩ = some (.string s) := B0.cell 2
      have vc3 : w1.cell? ⟨w.heap.size, 3, none⟩ = some (.slice A 0 c) := B0.cell 3
      go_wp2_with fail
      refine (Tryz.strconv_FormatBool false _).mono ?_
      rintro e w2 ⟨rfl, rfl⟩
      go_wp2
      go_ret2
      exact ⟨⟨_, rfl, rfl⟩, hbw⟩
    ·
      have HK := Lib.hid (fun w' h1 h2 => rcheck_any ⟨7, 1, s, ([] : List Int)⟩ A c w.heap.size w' (by show (([] : List Int) : List Int).length ≤ _; unfold maxLen; first | omega | (simp; done)) (by show (s : ByteArray).size ≤ _; unfold maxLen; omega) h1 h2)
      go_enter Tryz.func63, Tryz.ntmps63
      go_wp2_with fail
      obtain ⟨W, hW⟩ : ∃ W, W = (w.alloc (.cells #[.int .i64 7, .int .i64 1, .string s, .slice A 0 c] 24 (0, 0))) := ⟨_, rfl⟩
      have hbw : Below w.heap.size w W := by rw [hW]; exact ((Below.refl _ w).alloc (Nat.le_refl _) _)
      have B0 : Blk W (w.heap.size) 24 #[.int .i64 7, .int .i64 1, .string s, .slice A 0 c] := by
        rw [hW]
        have := Blk.new w 24 #[.int .i64 7, .int .i64 1, .string s, .slice A 0 c]
        exact this
      have hsz : W.heap.size = w.heap.size + 1 := by rw [hW]; simp
      rw [← hW]
      clear hW hsz
      refine (HK.out W (HX.out.below hbw) hbw.size).mono ?_
      rintro e w1 ⟨rfl, hb1⟩
      rw [HCK.out]
      have B0 := B0.below hb1 B0.lt
      have hbw := hbw.trans (hb1.mono hbw.size)
      clear hb1 HK
      have vc0 : w1.cell? ⟨w.heap.size, 0, none⟩ = some (.int .i64 7) := B0.cell 0
      have vc1 : w1.cell? ⟨w.heap.size, 1, none⟩ = some (.int .i64 1) := B0.cell 1
      have vc2 : w1.cell? ⟨w.heap.size, 2, none⟩ = some (.string s) := B0.cell 2
      have vc3 : w1.cell? ⟨w.heap.size, 3, none⟩ = some (.slice A 0 c) := B0.cell 3
      go_wp2_with fail
      refine (Tryz.strconv_FormatBool true _).mono ?_
      rintro e w2 ⟨rfl, rfl⟩
      go_wp2
      go_ret2
      exact ⟨⟨_, rfl, rfl⟩, hbw⟩
end Go.Proofs.YtcmccjcelchlhaaGreatDoor
