/- The walk of text, whole; Print. -/
import Derived.Test.YtobanldeicclmaaGreatDoorP23
import Derived.Deep.DrawnRows
import Derived.Deep.RegionHeld3
namespace Go.Proofs.YtobanldeicclmaaGreatDoor
open Go.RowKit
attribute [local go_sem ↓] Go.wp_at_zero Go.wp_at_succ
set_option maxHeartbeats 4000000 in
set_option maxRecDepth 100000 in
theorem text_not (e : Ex) (hk : e.k = 4) (ho : e.op = 1) (hI : ∀ a ∈ e.ar, TextSpec 10 a) (h9 : ∀ a ∈ e.ar, a.text.length ≤ 1000000000) (hj : ∀ l, ((insL l e.ar).map List.length).sum + 98 * e.ar.length ≤ 999999000) (hla : e.ar.length ≤ 999999) (hP : partF e = 0) (B : Nat) (cs : List Value) (w : World) (hx : ExAt w B e cs) (hB : B ≤ w.heap.size) (htab : Tab w) (hm : Mx w) :
    Calls Tryz.prog 10 #[.agg cs.toArray] w fun en w' => en = .returned (.string (tx (e.text))) ∧ Below w.heap.size w w' := by
  have P := partOk hP
  have HX := Lib.hid hx
  obtain ⟨R, hR⟩ : ∃ R, e.text = R := ⟨_, rfl⟩
  rw [hR]
  have hte := hR.symm.trans (text_eq e)
  have HTM := Lib.hid (fun w' (hb : Below w.heap.size w w') => And.intro (tabIs_below htab hb) (hm.below hb))
  obtain ⟨hn, hs, hl, ha, hx, hr, hi⟩ := hx
  rename_i A1 c1 A2 c2 cs
  have HXX := Lib.hid (fun w' (hb : Below w.heap.size w w') => HX.out.keep (hb.mono hB))
  have hk1 : (e.k == 1) = false := by rw [hk]; rfl
  have hk2 : (e.k == 2) = false := by rw [hk]; rfl
  have hk3 : (e.k == 3) = false := by rw [hk]; rfl
  have hk5 : (e.k == 5) = false := by rw [hk]; rfl
  rw [if_neg (by omega), if_neg (by omega), if_neg (by omega), if_neg (by omega)] at hte
  rw [if_neg (by omega), if_neg (by omega), if_pos ho] at hte
  have HRN := Lib.hid (show rowN e = 3 by unfold rowN; rw [if_neg (by omega), if_neg (by omega)]; simp [ho])
  have hal := P.a4 hk
  have h1 : e.ar.length = 1 := by
    unfold arOf at hal
    rw [if_neg (by omega), if_neg (by omega), if_pos (by omega)] at hal
    have h1 : (1 : Nat) ≤ e.ar.length := hal.1
    have h3 : e.ar.length ≤ (1 : Nat) := hal.2
    omega
  obtain ⟨ad, ci0, rfl, hb0, hci0, hcell0⟩ := exs_at hr hi (show 0 < e.ar.length by omega)
  have hg := ins_get 3 e.ar 0 (by omega)
  have hz := h9 _ (List.getElem_mem (show 0 < e.ar.length by omega))
  have hTa := hI _ (List.getElem_mem (show 0 < e.ar.length by omega))
  obtain ⟨a, hea⟩ : ∃ a, e.ar[0] = a := ⟨_, rfl⟩
  rw [hea] at hci0 hg hz hTa
  have HCI := Lib.hid hci0
  obtain ⟨z1, z2, z3, z4, hxa, hra, hia⟩ := hci0
  rename_i A3 c3 A4 c4 cs3
  have hcell0' : ∀ j u, (exCells a A3 c3 A4 c4)[j]? = some u → w.cell? (ad.add j) = some u := fun j u hu => by have h := hcell0 j u hu; rwa [Nat.zero_mul, add_zero_ad] at h
  have fc0 : w.cell? (ad) = some (.int .i64 a.k) := hcell0' 0 _ rfl
  have fc1 : w.cell? ⟨(ad).block, (ad).off + 1, none⟩ = some (.int .i64 a.op) := hcell0' 1 _ rfl
  have fc2 : w.cell? ⟨(ad).block, (ad).off + 2, none⟩ = some (.string a.nm) := hcell0' 2 _ rfl
  have fc3 : w.cell? ⟨(ad).block, (ad).off + 3, none⟩ = some (.int .i64 a.v.k) := hcell0' 3 _ rfl
  have fc4 : w.cell? ⟨(ad).block, (ad).off + 4, none⟩ = some (.int .i64 a.v.n) := hcell0' 4 _ rfl
  have fc5 : w.cell? ⟨(ad).block, (ad).off + 5, none⟩ = some (.string a.v.s) := hcell0' 5 _ rfl
  have fc6 : w.cell? ⟨(ad).block, (ad).off + 6, none⟩ = some (.slice A3 a.v.l.length c3) := hcell0' 6 _ rfl
  have fc7 : w.cell? ⟨(ad).block, (ad).off + 7, none⟩ = some (.slice A4 a.ar.length c4) := hcell0' 7 _ rfl
  have HL1 := Lib.hid h1
  obtain ⟨t, htt⟩ : ∃ t, tx (parT (decide (rowN a < 3)) a.text) = t := ⟨_, rfl⟩
  have hpl := par_le (decide (rowN a < 3)) a.text
  have st : t.size ≤ 2000000000 := by rw [← htt, tx_size]; omega
  have HJ := Lib.hid (fun w' (hb : Below w.heap.size w w') cs' (hx' : ExAt w' B a cs') => within_of a 3 hTa hz B cs' w' hx' (Nat.le_trans hB hb.size) (HTM.out w' hb).1 (HTM.out w' hb).2)
  simp only [htt] at HJ
  have HR := Lib.hid (show tx R = ⟨#[110, 111, 116, 32]⟩ ++ t by rw [hte, hg, ← htt, ← tx_cat]; rfl)
  clear hx hr hi htab hm hI h9 hj hla hR hte hcell0 hcell0' hxa hra hia hb0 hea z1 z2 z3 z4 P hP hk ho hal hg hz hTa htt hpl
  change Hid (∀ w', Below w.heap.size w w' → ExAt w' B e [.int .i64 e.k, .int .i64 e.op, .string e.nm, .int .i64 e.v.k, .int .i64 e.v.n, .string e.v.s, .slice A1 e.v.l.length c1, .slice (some ad) e.ar.length c2]) at HXX
  rw [h1] at HXX
  show Calls Tryz.prog 10 #[.agg #[.int .i64 e.k, .int .i64 e.op, .string e.nm, .int .i64 e.v.k, .int .i64 e.v.n, .string e.v.s, .slice A1 e.v.l.length c1, .slice (some ad) e.ar.length c2]] w _
  rw [h1]
  clear h1
  go_enter Tryz.func10, Tryz.ntmps10
  go_upto_region 1 with (fail)
  obtain ⟨W, hW⟩ : ∃ W, W = (w.alloc (.cells #[.int .i64 e.k, .int .i64 e.op, .string e.nm, .int .i64 e.v.k, .int .i64 e.v.n, .string e.v.s, .slice A1 e.v.l.length c1, .slice (some ad) 1 c2] 27 (0, 0))) := ⟨_, rfl⟩
  have hbw : Below w.heap.size w W := by rw [hW]; exact ((Below.refl _ w).alloc (Nat.le_refl _) _)
  have B0 : Blk W (w.heap.size) 27 #[.int .i64 e.k, .int .i64 e.op, .string e.nm, .int .i64 e.v.k, .int .i64 e.v.n, .string e.v.s, .slice A1 e.v.l.length c1, .slice (some ad) 1 c2] := by
    rw [hW]
    have := Blk.new w 27 #[.int .i64 e.k, .int .i64 e.op, .string e.nm, .int .i64 e.v.k, .int .i64 e.v.n, .string e.v.s, .slice A1 e.v.l.length c1, .slice (some ad) 1 c2]
    exact this
  have hsz : W.heap.size = w.heap.size + 1 := by rw [hW]; simp
  rw [← hW]
  have ec0 : W.cell? ⟨w.heap.size, 0, none⟩ = some (.int .i64 e.k) := B0.cell 0
  have ec1 : W.cell? ⟨w.heap.size, 1, none⟩ = some (.int .i64 e.op) := B0.cell 1
  have ec2 : W.cell? ⟨w.heap.size, 2, none⟩ = some (.string e.nm) := B0.cell 2
  have ec3 : W.cell? ⟨w.heap.size, 3, none⟩ = some (.int .i64 e.v.k) := B0.cell 3
  have ec4 : W.cell? ⟨w.heap.size, 4, none⟩ = some (.int .i64 e.v.n) := B0.cell 4
  have ec5 : W.cell? ⟨w.heap.size, 5, none⟩ = some (.string e.v.s) := B0.cell 5
  have ec6 : W.cell? ⟨w.heap.size, 6, none⟩ = some (.slice A1 e.v.l.length c1) := B0.cell 6
  have ec7 : W.cell? ⟨w.heap.size, 7, none⟩ = some (.slice (some ad) 1 c2) := B0.cell 7
  have gc0 : W.cell? ad = some (.int .i64 a.k) := Below.cell_of hbw fc0
  have gc1 : W.cell? ⟨ad.block, ad.off + 1, none⟩ = some (.int .i64 a.op) := Below.cell_of hbw fc1
  have gc2 : W.cell? ⟨ad.block, ad.off + 2, none⟩ = some (.string a.nm) := Below.cell_of hbw fc2
  have gc3 : W.cell? ⟨ad.block, ad.off + 3, none⟩ = some (.int .i64 a.v.k) := Below.cell_of hbw fc3
  have gc4 : W.cell? ⟨ad.block, ad.off + 4, none⟩ = some (.int .i64 a.v.n) := Below.cell_of hbw fc4
  have gc5 : W.cell? ⟨ad.block, ad.off + 5, none⟩ = some (.string a.v.s) := Below.cell_of hbw fc5
  have gc6 : W.cell? ⟨ad.block, ad.off + 6, none⟩ = some (.slice A3 a.v.l.length c3) := Below.cell_of hbw fc6
  have gc7 : W.cell? ⟨ad.block, ad.off + 7, none⟩ = some (.slice A4 a.ar.length c4) := Below.cell_of hbw fc7
  clear hW hsz fc0 fc1 fc2 fc3 fc4 fc5 fc6 fc7
  go_wp2_with fail
  refine (row_any e B _ W (HXX.out W hbw)).mono ?_
  rw [HRN.out]
  rintro en W1 ⟨rfl, hb1⟩
  have hbw1 := hbw.trans (hb1.mono hbw.size)
  have B0 := B0.below hb1 B0.lt
  have hc0 := Below.cell_of hb1 gc0
  have hc1 := Below.cell_of hb1 gc1
  have hc2 := Below.cell_of hb1 gc2
  have hc3 := Below.cell_of hb1 gc3
  have hc4 := Below.cell_of hb1 gc4
  have hc5 := Below.cell_of hb1 gc5
  have hc6 := Below.cell_of hb1 gc6
  have hc7 := Below.cell_of hb1 gc7
  clear ec0 ec1 ec2 ec3 ec4 ec5 ec6 ec7 gc0 gc1 gc2 gc3 gc4 gc5 gc6 gc7 hb1
  have ec0 : W1.cell? ⟨w.heap.size, 0, none⟩ = some (.int .i64 e.k) := B0.cell 0
  have ec1 : W1.cell? ⟨w.heap.size, 1, none⟩ = some (.int .i64 e.op) := B0.cell 1
  have ec2 : W1.cell? ⟨w.heap.size, 2, none⟩ = some (.string e.nm) := B0.cell 2
  have ec3 : W1.cell? ⟨w.heap.size, 3, none⟩ = some (.int .i64 e.v.k) := B0.cell 3
  have ec4 : W1.cell? ⟨w.heap.size, 4, none⟩ = some (.int .i64 e.v.n) := B0.cell 4
  have ec5 : W1.cell? ⟨w.heap.size, 5, none⟩ = some (.string e.v.s) := B0.cell 5
  have ec6 : W1.cell? ⟨w.heap.size, 6, none⟩ = some (.slice A1 e.v.l.length c1) := B0.cell 6
  have ec7 : W1.cell? ⟨w.heap.size, 7, none⟩ = some (.slice (some ad) 1 c2) := B0.cell 7
  go_wp2_with fail
  refine (HJ.out W1 hbw1 _ (HCI.out.keep (hbw1.mono hB))).mono ?_
  rintro en W2 ⟨rfl, hb2⟩
  clear ec0 ec1 ec2 ec3 ec4 ec5 ec6 ec7 hc0 hc1 hc2 hc3 hc4 hc5 hc6 hc7 B0
  go_wp2_with fail
  go_ret
  exact ⟨by rw [HR.out]; try rfl, hbw1.trans (hb2.mono hbw1.size)⟩
set_option maxHeartbeats 4000000 in
set_option maxRecDepth 100000 in
theorem text_neg (e : Ex) (hk : e.k = 4) (ho : e.op = 20) (hI : ∀ a ∈ e.ar, TextSpec 10 a) (h9 : ∀ a ∈ e.ar, a.text.length ≤ 1000000000) (hj : ∀ l, ((insL l e.ar).map List.length).sum + 98 * e.ar.length ≤ 999999000) (hla : e.ar.length ≤ 999999) (hP : partF e = 0) (B : Nat) (cs : List Value) (w : World) (hx : ExAt w B e cs) (hB : B ≤ w.heap.size) (htab : Tab w) (hm : Mx w) :
    Calls Tryz.prog 10 #[.agg cs.toArray] w fun en w' => en = .returned (.string (tx (e.text))) ∧ Below w.heap.size w w' := by
  have P := partOk hP
  have HX := Lib.hid hx
  obtain ⟨R, hR⟩ : ∃ R, e.text = R := ⟨_, rfl⟩
  rw [hR]
  have hte := hR.symm.trans (text_eq e)
  have HTM := Lib.hid (fun w' (hb : Below w.heap.size w w') => And.intro (tabIs_below htab hb) (hm.below hb))
  obtain ⟨hn, hs, hl, ha, hx, hr, hi⟩ := hx
  rename_i A1 c1 A2 c2 cs
  have HXX := Lib.hid (fun w' (hb : Below w.heap.size w w') => HX.out.keep (hb.mono hB))
  have hk1 : (e.k == 1) = false := by rw [hk]; rfl
  have hk2 : (e.k == 2) = false := by rw [hk]; rfl
  have hk3 : (e.k == 3) = false := by rw [hk]; rfl
  have hk5 : (e.k == 5) = false := by rw [hk]; rfl
  rw [if_neg (by omega), if_neg (by omega), if_neg (by omega), if_neg (by omega)] at hte
  rw [if_neg (by omega), if_neg (by omega), if_neg (by omega), if_neg (by omega), if_neg (by omega), if_neg (by omega), if_pos ho] at hte
  have HRN := Lib.hid (show rowN e = 7 by unfold rowN; rw [if_neg (by omega), if_neg (by omega)]; simp [ho])
  have hal := P.a4 hk
  have h1 : e.ar.length = 1 := by
    unfold arOf at hal
    rw [if_neg (by omega), if_neg (by omega), if_pos (by omega)] at hal
    have h1 : (1 : Nat) ≤ e.ar.length := hal.1
    have h3 : e.ar.length ≤ (1 : Nat) := hal.2
    omega
  obtain ⟨ad, ci0, rfl, hb0, hci0, hcell0⟩ := exs_at hr hi (show 0 < e.ar.length by omega)
  have hg := ins_get 7 e.ar 0 (by omega)
  have hz := h9 _ (List.getElem_mem (show 0 < e.ar.length by omega))
  have hTa := hI _ (List.getElem_mem (show 0 < e.ar.length by omega))
  obtain ⟨a, hea⟩ : ∃ a, e.ar[0] = a := ⟨_, rfl⟩
  rw [hea] at hci0 hg hz hTa
  have HCI := Lib.hid hci0
  obtain ⟨z1, z2, z3, z4, hxa, hra, hia⟩ := hci0
  rename_i A3 c3 A4 c4 cs3
  have hcell0' : ∀ j u, (exCells a A3 c3 A4 c4)[j]? = some u → w.cell? (ad.add j) = some u := fun j u hu => by have h := hcell0 j u hu; rwa [Nat.zero_mul, add_zero_ad] at h
  have fc0 : w.cell? (ad) = some (.int .i64 a.k) := hcell0' 0 _ rfl
  have fc1 : w.cell? ⟨(ad).block, (ad).off + 1, none⟩ = some (.int .i64 a.op) := hcell0' 1 _ rfl
  have fc2 : w.cell? ⟨(ad).block, (ad).off + 2, none⟩ = some (.string a.nm) := hcell0' 2 _ rfl
  have fc3 : w.cell? ⟨(ad).block, (ad).off + 3, none⟩ = some (.int .i64 a.v.k) := hcell0' 3 _ rfl
  have fc4 : w.cell? ⟨(ad).block, (ad).off + 4, none⟩ = some (.int .i64 a.v.n) := hcell0' 4 _ rfl
  have fc5 : w.cell? ⟨(ad).block, (ad).off + 5, none⟩ = some (.string a.v.s) := hcell0' 5 _ rfl
  have fc6 : w.cell? ⟨(ad).block, (ad).off + 6, none⟩ = some (.slice A3 a.v.l.length c3) := hcell0' 6 _ rfl
  have fc7 : w.cell? ⟨(ad).block, (ad).off + 7, none⟩ = some (.slice A4 a.ar.length c4) := hcell0' 7 _ rfl
  have HL1 := Lib.hid h1
  obtain ⟨t, htt⟩ : ∃ t, tx ((if a.k = 1 ∧ a.v.k = 2 ∧ 0 ≤ a.v.n then [45, 40] ++ a.text ++ [41] else [45] ++ parT (decide (rowN a < 7)) a.text)) = t := ⟨_, rfl⟩
  have hpl := par_le (decide (rowN a < 7)) a.text
  have HJ := Lib.hid (fun w' (hb : Below w.heap.size w w') cs' (hx' : ExAt w' B a cs') => negated_of a hTa hz B cs' w' hx' (Nat.le_trans hB hb.size) (HTM.out w' hb).1 (HTM.out w' hb).2)
  simp only [htt] at HJ
  have hg0 := ins_get 0 e.ar 0 (by omega)
  have hhd : headNeg e.ar = (decide (a.k = 1) && (decide (a.v.k = 2) && decide (0 ≤ a.v.n))) := by
    match hr' : e.ar, h1 with
    | [x], _ => (have hx1 : x = a := by have h := hea; simp only [hr'] at h; exact h); rw [hx1]; rfl
  rw [hea] at hg0
  have hrb := row_bd a
  have HR := Lib.hid (show tx R = t by
    rw [hte, hg, hg0, hhd, ← htt]
    congr 1
    by_cases c : a.k = 1 ∧ a.v.k = 2 ∧ 0 ≤ a.v.n
    · rw [if_pos c, if_pos (by simp [c.1, c.2.1, c.2.2])]
      unfold parT
      rw [decide_eq_false (by omega)]; rfl
    · rw [if_neg c, if_neg (by simp only [Bool.and_eq_true, decide_eq_true_iff]; exact c)])
  clear hg0 hhd hrb
  clear hx hr hi htab hm hI h9 hj hla hR hte hcell0 hcell0' hxa hra hia hb0 hea z1 z2 z3 z4 P hP hk ho hal hg hz hTa htt hpl
  change Hid (∀ w', Below w.heap.size w w' → ExAt w' B e [.int .i64 e.k, .int .i64 e.op, .string e.nm, .int .i64 e.v.k, .int .i64 e.v.n, .string e.v.s, .slice A1 e.v.l.length c1, .slice (some ad) e.ar.length c2]) at HXX
  rw [h1] at HXX
  show Calls Tryz.prog 10 #[.agg #[.int .i64 e.k, .int .i64 e.op, .string e.nm, .int .i64 e.v.k, .int .i64 e.v.n, .string e.v.s, .slice A1 e.v.l.length c1, .slice (some ad) e.ar.length c2]] w _
  rw [h1]
  clear h1
  go_enter Tryz.func10, Tryz.ntmps10
  go_upto_region 1 with (fail)
  obtain ⟨W, hW⟩ : ∃ W, W = (w.alloc (.cells #[.int .i64 e.k, .int .i64 e.op, .string e.nm, .int .i64 e.v.k, .int .i64 e.v.n, .string e.v.s, .slice A1 e.v.l.length c1, .slice (some ad) 1 c2] 27 (0, 0))) := ⟨_, rfl⟩
  have hbw : Below w.heap.size w W := by rw [hW]; exact ((Below.refl _ w).alloc (Nat.le_refl _) _)
  have B0 : Blk W (w.heap.size) 27 #[.int .i64 e.k, .int .i64 e.op, .string e.nm, .int .i64 e.v.k, .int .i64 e.v.n, .string e.v.s, .slice A1 e.v.l.length c1, .slice (some ad) 1 c2] := by
    rw [hW]
    have := Blk.new w 27 #[.int .i64 e.k, .int .i64 e.op, .string e.nm, .int .i64 e.v.k, .int .i64 e.v.n, .string e.v.s, .slice A1 e.v.l.length c1, .slice (some ad) 1 c2]
    exact this
  have hsz : W.heap.size = w.heap.size + 1 := by rw [hW]; simp
  rw [← hW]
  have ec0 : W.cell? ⟨w.heap.size, 0, none⟩ = some (.int .i64 e.k) := B0.cell 0
  have ec1 : W.cell? ⟨w.heap.size, 1, none⟩ = some (.int .i64 e.op) := B0.cell 1
  have ec2 : W.cell? ⟨w.heap.size, 2, none⟩ = some (.string e.nm) := B0.cell 2
  have ec3 : W.cell? ⟨w.heap.size, 3, none⟩ = some (.int .i64 e.v.k) := B0.cell 3
  have ec4 : W.cell? ⟨w.heap.size, 4, none⟩ = some (.int .i64 e.v.n) := B0.cell 4
  have ec5 : W.cell? ⟨w.heap.size, 5, none⟩ = some (.string e.v.s) := B0.cell 5
  have ec6 : W.cell? ⟨w.heap.size, 6, none⟩ = some (.slice A1 e.v.l.length c1) := B0.cell 6
  have ec7 : W.cell? ⟨w.heap.size, 7, none⟩ = some (.slice (some ad) 1 c2) := B0.cell 7
  have gc0 : W.cell? ad = some (.int .i64 a.k) := Below.cell_of hbw fc0
  have gc1 : W.cell? ⟨ad.block, ad.off + 1, none⟩ = some (.int .i64 a.op) := Below.cell_of hbw fc1
  have gc2 : W.cell? ⟨ad.block, ad.off + 2, none⟩ = some (.string a.nm) := Below.cell_of hbw fc2
  have gc3 : W.cell? ⟨ad.block, ad.off + 3, none⟩ = some (.int .i64 a.v.k) := Below.cell_of hbw fc3
  have gc4 : W.cell? ⟨ad.block, ad.off + 4, none⟩ = some (.int .i64 a.v.n) := Below.cell_of hbw fc4
  have gc5 : W.cell? ⟨ad.block, ad.off + 5, none⟩ = some (.string a.v.s) := Below.cell_of hbw fc5
  have gc6 : W.cell? ⟨ad.block, ad.off + 6, none⟩ = some (.slice A3 a.v.l.length c3) := Below.cell_of hbw fc6
  have gc7 : W.cell? ⟨ad.block, ad.off + 7, none⟩ = some (.slice A4 a.ar.length c4) := Below.cell_of hbw fc7
  clear hW hsz fc0 fc1 fc2 fc3 fc4 fc5 fc6 fc7
  go_wp2_with fail
  refine (row_any e B _ W (HXX.out W hbw)).mono ?_
  rw [HRN.out]
  rintro en W1 ⟨rfl, hb1⟩
  have hbw1 := hbw.trans (hb1.mono hbw.size)
  have B0 := B0.below hb1 B0.lt
  have hc0 := Below.cell_of hb1 gc0
  have hc1 := Below.cell_of hb1 gc1
  have hc2 := Below.cell_of hb1 gc2
  have hc3 := Below.cell_of hb1 gc3
  have hc4 := Below.cell_of hb1 gc4
  have hc5 := Below.cell_of hb1 gc5
  have hc6 := Below.cell_of hb1 gc6
  have hc7 := Below.cell_of hb1 gc7
  clear ec0 ec1 ec2 ec3 ec4 ec5 ec6 ec7 gc0 gc1 gc2 gc3 gc4 gc5 gc6 gc7 hb1
  have ec0 : W1.cell? ⟨w.heap.size, 0, none⟩ = some (.int .i64 e.k) := B0.cell 0
  have ec1 : W1.cell? ⟨w.heap.size, 1, none⟩ = some (.int .i64 e.op) := B0.cell 1
  have ec2 : W1.cell? ⟨w.heap.size, 2, none⟩ = some (.string e.nm) := B0.cell 2
  have ec3 : W1.cell? ⟨w.heap.size, 3, none⟩ = some (.int .i64 e.v.k) := B0.cell 3
  have ec4 : W1.cell? ⟨w.heap.size, 4, none⟩ = some (.int .i64 e.v.n) := B0.cell 4
  have ec5 : W1.cell? ⟨w.heap.size, 5, none⟩ = some (.string e.v.s) := B0.cell 5
  have ec6 : W1.cell? ⟨w.heap.size, 6, none⟩ = some (.slice A1 e.v.l.length c1) := B0.cell 6
  have ec7 : W1.cell? ⟨w.heap.size, 7, none⟩ = some (.slice (some ad) 1 c2) := B0.cell 7
  go_wp2_with fail
  refine (HJ.out W1 hbw1 _ (HCI.out.keep (hbw1.mono hB))).mono ?_
  rintro en W2 ⟨rfl, hb2⟩
  clear ec0 ec1 ec2 ec3 ec4 ec5 ec6 ec7 hc0 hc1 hc2 hc3 hc4 hc5 hc6 hc7 B0
  go_wp2_with fail
  go_ret
  exact ⟨by rw [HR.out]; try rfl, hbw1.trans (hb2.mono hbw1.size)⟩
set_option maxHeartbeats 4000000 in
set_option maxRecDepth 100000 in
theorem text_fun (e : Ex) (hk : e.k = 4) (ho : (12 ≤ e.op ∧ e.op ≤ 14) ∨ 21 ≤ e.op) (hI : ∀ a ∈ e.ar, TextSpec 10 a) (h9 : ∀ a ∈ e.ar, a.text.length ≤ 1000000000) (hj : ∀ l, ((insL l e.ar).map List.length).sum + 98 * e.ar.length ≤ 999999000) (hla : e.ar.length ≤ 999999) (hP : partF e = 0) (B : Nat) (cs : List Value) (w : World) (hx : ExAt w B e cs) (hB : B ≤ w.heap.size) (htab : Tab w) (hm : Mx w) :
    Calls Tryz.prog 10 #[.agg cs.toArray] w fun en w' => en = .returned (.string (tx (e.text))) ∧ Below w.heap.size w w' := by
  have P := partOk hP
  have HX := Lib.hid hx
  obtain ⟨R, hR⟩ : ∃ R, e.text = R := ⟨_, rfl⟩
  rw [hR]
  have hte := hR.symm.trans (text_eq e)
  have HTM := Lib.hid (fun w' (hb : Below w.heap.size w w') => And.intro (tabIs_below htab hb) (hm.below hb))
  obtain ⟨hn, hs, hl, ha, hx, hr, hi⟩ := hx
  rename_i A1 c1 A2 c2 cs
  have HXX := Lib.hid (fun w' (hb : Below w.heap.size w w') => HX.out.keep (hb.mono hB))
  have hk1 : (e.k == 1) = false := by rw [hk]; rfl
  have hk2 : (e.k == 2) = false := by rw [hk]; rfl
  have hk3 : (e.k == 3) = false := by rw [hk]; rfl
  have hk5 : (e.k == 5) = false := by rw [hk]; rfl
  rw [if_neg (by omega), if_neg (by omega), if_neg (by omega), if_neg (by omega)] at hte
  rw [if_neg (by omega), if_neg (by omega), if_neg (by omega), if_neg (by omega), if_neg (by omega), if_neg (by omega), if_neg (by omega)] at hte
  have HRN := Lib.hid (show rowN e = 8 by unfold rowN; rw [if_neg (by omega), if_neg (by omega)]; rw [if_neg (by omega), if_neg (by omega), if_neg (by omega), if_neg (by omega), if_neg (by omega), if_neg (by omega), if_neg (by omega)])
  have h10 := hj 1
  have hjl := join_len (insL 1 e.ar) [44, 32]
  rw [ins_len] at hjl
  simp only [List.length_cons, List.length_nil] at hjl
  have HJ := Lib.hid (fun w' (hb : Below w.heap.size w w') => joined_of e.ar [44, 32] 1 hI h9 (by omega) (by omega) A2 c2 B cs w' (hr.below (hb.mono hB)) (fun i h => (hi i h).keep (hb.mono hB)) (Nat.le_trans hB hb.size) (HTM.out w' hb).1 (HTM.out w' hb).2)
  obtain ⟨t, htt⟩ : ∃ t, tx (Lib.join (insL 1 e.ar) [44, 32]) = t := ⟨_, rfl⟩
  obtain ⟨tf, htf⟩ : ∃ t, tx (funcT e.op) = t := ⟨_, rfl⟩
  simp only [htt] at HJ
  have st : t.size ≤ 2000000000 := by rw [← htt, tx_size]; omega
  have sf : tf.size ≤ 8 := by rw [← htf, tx_size]; exact func_le e.op
  have HTF := Lib.hid htf
  have HR := Lib.hid (show tx R = tf ++ ⟨#[40]⟩ ++ t ++ ⟨#[41]⟩ by rw [hte, ← htt, ← htf, ← tx_cat, ← tx_cat, ← tx_cat]; rfl)
  clear hx hr hi htab hm hI h9 hj hla hR hte P hP hk ho h10 hjl htt htf
  show Calls Tryz.prog 10 #[.agg #[.int .i64 e.k, .int .i64 e.op, .string e.nm, .int .i64 e.v.k, .int .i64 e.v.n, .string e.v.s, .slice A1 e.v.l.length c1, .slice A2 e.ar.length c2]] w _
  go_enter Tryz.func10, Tryz.ntmps10
  go_upto_region 1 with (fail)
  obtain ⟨W, hW⟩ : ∃ W, W = (w.alloc (.cells #[.int .i64 e.k, .int .i64 e.op, .string e.nm, .int .i64 e.v.k, .int .i64 e.v.n, .string e.v.s, .slice A1 e.v.l.length c1, .slice A2 e.ar.length c2] 27 (0, 0))) := ⟨_, rfl⟩
  have hbw : Below w.heap.size w W := by rw [hW]; exact ((Below.refl _ w).alloc (Nat.le_refl _) _)
  have B0 : Blk W (w.heap.size) 27 #[.int .i64 e.k, .int .i64 e.op, .string e.nm, .int .i64 e.v.k, .int .i64 e.v.n, .string e.v.s, .slice A1 e.v.l.length c1, .slice A2 e.ar.length c2] := by
    rw [hW]
    have := Blk.new w 27 #[.int .i64 e.k, .int .i64 e.op, .string e.nm, .int .i64 e.v.k, .int .i64 e.v.n, .string e.v.s, .slice A1 e.v.l.length c1, .slice A2 e.ar.length c2]
    exact this
  have hsz : W.heap.size = w.heap.size + 1 := by rw [hW]; simp
  rw [← hW]
  have ec0 : W.cell? ⟨w.heap.size, 0, none⟩ = some (.int .i64 e.k) := B0.cell 0
  have ec1 : W.cell? ⟨w.heap.size, 1, none⟩ = some (.int .i64 e.op) := B0.cell 1
  have ec2 : W.cell? ⟨w.heap.size, 2, none⟩ = some (.string e.nm) := B0.cell 2
  have ec3 : W.cell? ⟨w.heap.size, 3, none⟩ = some (.int .i64 e.v.k) := B0.cell 3
  have ec4 : W.cell? ⟨w.heap.size, 4, none⟩ = some (.int .i64 e.v.n) := B0.cell 4
  have ec5 : W.cell? ⟨w.heap.size, 5, none⟩ = some (.string e.v.s) := B0.cell 5
  have ec6 : W.cell? ⟨w.heap.size, 6, none⟩ = some (.slice A1 e.v.l.length c1) := B0.cell 6
  have ec7 : W.cell? ⟨w.heap.size, 7, none⟩ = some (.slice A2 e.ar.length c2) := B0.cell 7
  clear hW hsz
  go_wp2_with fail
  refine (row_any e B _ W (HXX.out W hbw)).mono ?_
  rw [HRN.out]
  rintro en W1 ⟨rfl, hb1⟩
  have hbw1 := hbw.trans (hb1.mono hbw.size)
  have B0 := B0.below hb1 B0.lt
  clear ec0 ec1 ec2 ec3 ec4 ec5 ec6 ec7 hb1
  have K1 := Lib.hid (Later.call (W := W1) (show ∀ w', Below W1.heap.size W1 w' → Calls Tryz.prog 24 #[.slice A2 e.ar.length c2, .string ⟨#[44, 32]⟩, .int .i64 1] w' fun en w'' => en = .returned (.string t) ∧ Below w'.heap.size w' w'' from fun w' hb => HJ.out w' (hbw1.trans (hb.mono hbw1.size))))
  have K2 := Lib.hid (Later.call (W := W1) (show ∀ w', Below W1.heap.size W1 w' → Calls Tryz.prog 28 #[.int .i64 e.op] w' fun en w'' => en = .returned (.string tf) ∧ Below w'.heap.size w' w'' from fun w' hb => by have h := function_any e.op w'; rwa [HTF.out] at h))
  have q0 := Later.cell (show W1.cell? ⟨w.heap.size, 1, none⟩ = some (.int .i64 e.op) from B0.cell 1)
  have q1 := Later.cell (show W1.cell? ⟨w.heap.size, 7, none⟩ = some (.slice A2 e.ar.length c2) from B0.cell 7)
  clear B0 HJ
  go_upto_region 25 with (fail)
  refine wp_region_later (by kernel_rfl) (by kernel_rfl) ?_
  repeat (go_big_quiet_step (first | with_reducible exact K1.out _ | with_reducible exact K2.out _))
  refine wpQuiet_nil ?_
  intro W9 hw'
  have hb9 := later_h hw'
  clear hw'
  go_wp2_with fail
  go_ret
  exact ⟨by rw [HR.out]; try rfl, hbw1.trans (hb9.mono hbw1.size)⟩
end Go.Proofs.YtobanldeicclmaaGreatDoor
