/- The walks of the reference's write: minus, calls; write whole; Print. -/
import Derived.Test.YtcmccjcelchlhaaGreatDoorFRp6
import Derived.Deep.DrawnRows
import Derived.Deep.RegionHeld3
import Derived.IntWalk
namespace Go.Proofs.YtcmccjcelchlhaaGreatDoor
open Go.RowKit
attribute [local go_sem ↓] Go.wp_at_zero Go.wp_at_succ

set_option maxHeartbeats 4000000 in
set_option maxRecDepth 100000 in
theorem rtext_neg (e : Ex) (hk : e.k = 4) (ho : e.op = 20) (hI : ∀ a ∈ e.ar, RTextSpec 26 a) (h9 : ∀ a ∈ e.ar, a.text.length ≤ 1000000000) (hj : ∀ l, ((insL l e.ar).map List.length).sum + 98 * e.ar.length ≤ 999999000) (hla : e.ar.length ≤ 999999) (hP : partF e = 0) (B : Nat) (cs : List Value) (w : World) (hx : ExAt w B e cs) (hB : B ≤ w.heap.size) (htab : Tab w) (hm : MxS w) :
    Calls Tryz.prog 26 #[.agg cs.toArray] w fun en w' => en = .returned (.string (tx (e.text))) ∧ Below w.heap.size w w' := by
  have P := partOk hP
  have HX := Lib.hid hx
  obtain ⟨R, hR⟩ : ∃ R, e.text = R := ⟨_, rfl⟩
  rw [hR]
  have hte := hR.symm.trans (text_eq e)
  have HTM := Lib.hid (fun w' (hb : Below w.heap.size w w') => And.intro (tabIs_below htab hb) (hm.below hb))
  obtain ⟨hn, hs, hl, ha, hx, hr, hi⟩ := hx
  rename_i A1 c1 A2 c2 cs
  have HXX := Lib.hid (fun w' (hb : Below w.heap.size w w') => HX.out.keep (hb.mono hB))
  have hk1 : (e.k == 1) = false := by rw [hk]; rfl
  have hk2 : (e.k == 2) = false := by rw [hk]; rfl
  have hk3 : (e.k == 3) = false := by rw [hk]; rfl
  have hk5 : (e.k == 5) = false := by rw [hk]; rfl
  rw [if_neg (by omega), if_neg (by omega), if_neg (by omega), if_neg (by omega)] at hte
  rw [if_neg (by omega), if_neg (by omega), if_neg (by omega), if_neg (by omega), if_neg (by omega), if_neg (by omega), if_pos ho] at hte
  have HRN := Lib.hid (show rowN e = 7 by unfold rowN; rw [if_neg (by omega), if_neg (by omega)]; simp [ho])
  have hal := P.a4 hk
  have h1 : e.ar.length = 1 := by
    unfold arOf at hal
    rw [if_neg (by omega), if_neg (by omega), if_pos (by omega)] at hal
    have h1 : (1 : Nat) ≤ e.ar.length := hal.1
    have h3 : e.ar.length ≤ (1 : Nat) := hal.2
    omega
  have hpos := ar_pos P hk
  obtain ⟨ad, ci0, rfl, hb0, hci0, hcell0⟩ := exs_at hr hi hpos
  have hz := h9 _ (List.getElem_mem hpos)
  have hTa := hI _ (List.getElem_mem hpos)
  obtain ⟨a, hea⟩ : ∃ a, e.ar[0] = a := ⟨_, rfl⟩
  have hg := ins_get 7 e.ar 0 hpos
  rw [hea] at hg
  have hg0 := ins_get 0 e.ar 0 hpos
  rw [hea] at hg0
  rw [hea] at hci0 hz hTa
  have HCI := Lib.hid hci0
  obtain ⟨z1, z2, z3, z4, hxa, hra, hia⟩ := hci0
  rename_i A3 c3 A4 c4 cs3
  have hcell0' : ∀ j u, (exCells a A3 c3 A4 c4)[j]? = some u → w.cell? (ad.add j) = some u := fun j u hu => by have h := hcell0 j u hu; rwa [Nat.zero_mul, add_zero_ad] at h
  have fc0 : w.cell? (ad) = some (.int .i64 a.k) := hcell0' 0 _ rfl
  have fc1 : w.cell? ⟨(ad).block, (ad).off + 1, none⟩ = some (.int .i64 a.op) := hcell0' 1 _ rfl
  have fc2 : w.cell? ⟨(ad).block, (ad).off + 2, none⟩ = some (.string a.nm) := hcell0' 2 _ rfl
  have fc3 : w.cell? ⟨(ad).block, (ad).off + 3, none⟩ = some (.int .i64 a.v.k) := hcell0' 3 _ rfl
  have fc4 : w.cell? ⟨(ad).block, (ad).off + 4, none⟩ = some (.int .i64 a.v.n) := hcell0' 4 _ rfl
  have fc5 : w.cell? ⟨(ad).block, (ad).off + 5, none⟩ = some (.string a.v.s) := hcell0' 5 _ rfl
  have fc6 : w.cell? ⟨(ad).block, (ad).off + 6, none⟩ = some (.slice A3 a.v.l.length c3) := hcell0' 6 _ rfl
  have fc7 : w.cell? ⟨(ad).block, (ad).off + 7, none⟩ = some (.slice A4 a.ar.length c4) := hcell0' 7 _ rfl
  have hposI : (0 : Int) < (e.ar.length : Nat) := by omega
  have hhd : headNeg e.ar = (decide (a.k = 1) && (decide (a.v.k = 2) && decide (0 ≤ a.v.n))) := by
    match hr' : e.ar, h1 with
    | [x], _ => (have hx1 : x = a := by have h := hea; simp only [hr'] at h; exact h); rw [hx1]; rfl
  have hrb := row_bd a
  obtain ⟨t, htt⟩ : ∃ t, tx a.text = t := ⟨_, rfl⟩
  obtain ⟨tp, htp⟩ : ∃ t, tx (parT (decide (rowN a < 7)) a.text) = t := ⟨_, rfl⟩
  have hpl := par_le (decide (rowN a < 7)) a.text
  have st : t.size ≤ 2000000000 := by rw [← htt, tx_size]; omega
  have sp : tp.size ≤ 2000000000 := by rw [← htp, tx_size]; omega
  have HT := Lib.hid (fun w' (hb : Below w.heap.size w w') cs' (hx' : ExAt w' B a cs') => hTa B cs' w' hx' (Nat.le_trans hB hb.size) (HTM.out w' hb).1 (HTM.out w' hb).2)
  have HJ := Lib.hid (fun w' (hb : Below w.heap.size w w') cs' (hx' : ExAt w' B a cs') => inside_of a 7 hTa hz B cs' w' hx' (Nat.le_trans hB hb.size) (HTM.out w' hb).1 (HTM.out w' hb).2)
  simp only [htt] at HT
  simp only [htp] at HJ
  have HTT := Lib.hid htt
  have HTP := Lib.hid htp
  have HR := Lib.hid (show tx R = tx (if a.k = 1 ∧ a.v.k = 2 ∧ 0 ≤ a.v.n then [45, 40] ++ a.text ++ [41] else [45] ++ parT (decide (rowN a < 7)) a.text) by
    rw [hte, hg, hg0, hhd]
    congr 1
    by_cases c : a.k = 1 ∧ a.v.k = 2 ∧ 0 ≤ a.v.n
    · rw [if_pos c, if_pos (by simp [c.1, c.2.1, c.2.2])]
      unfold parT
      rw [decide_eq_false (by omega)]; rfl
    · rw [if_neg c, if_neg (by simp only [Bool.and_eq_true, decide_eq_true_iff]; exact c)])
  clear hx hr hi htab hm hI h9 hj hla hR hte hcell0 hcell0' hxa hra hia hb0 hea z1 z2 z3 z4 P hP hk hpos ho hal h1 hz hTa hg hg0 hhd hrb htt htp hpl
  show Calls Tryz.prog 26 #[.agg #[.int .i64 e.k, .int .i64 e.op, .string e.nm, .int .i64 e.v.k, .int .i64 e.v.n, .string e.v.s, .slice A1 e.v.l.length c1, .slice (some ad) e.ar.length c2]] w _
  go_enter Tryz.func26, Tryz.ntmps26
  go_upto_region 1 with (fail)
  obtain ⟨W, hW⟩ : ∃ W, W = (w.alloc (.cells #[.int .i64 e.k, .int .i64 e.op, .string e.nm, .int .i64 e.v.k, .int .i64 e.v.n, .string e.v.s, .slice A1 e.v.l.length c1, .slice (some ad) e.ar.length c2] 27 (0, 0))) := ⟨_, rfl⟩
  have hbw : Below w.heap.size w W := by rw [hW]; exact ((Below.refl _ w).alloc (Nat.le_refl _) _)
  have B0 : Blk W (w.heap.size) 27 #[.int .i64 e.k, .int .i64 e.op, .string e.nm, .int .i64 e.v.k, .int .i64 e.v.n, .string e.v.s, .slice A1 e.v.l.length c1, .slice (some ad) e.ar.length c2] := by
    rw [hW]
    have := Blk.new w 27 #[.int .i64 e.k, .int .i64 e.op, .string e.nm, .int .i64 e.v.k, .int .i64 e.v.n, .string e.v.s, .slice A1 e.v.l.length c1, .slice (some ad) e.ar.length c2]
    exact this
  have hsz : W.heap.size = w.heap.size + 1 := by rw [hW]; simp
  rw [← hW]
  have ec0 : W.cell? ⟨w.heap.size, 0, none⟩ = some (.int .i64 e.k) := B0.cell 0
  have ec1 : W.cell? ⟨w.heap.size, 1, none⟩ = some (.int .i64 e.op) := B0.cell 1
  have ec2 : W.cell? ⟨w.heap.size, 2, none⟩ = some (.string e.nm) := B0.cell 2
  have ec3 : W.cell? ⟨w.heap.size, 3, none⟩ = some (.int .i64 e.v.k) := B0.cell 3
  have ec4 : W.cell? ⟨w.heap.size, 4, none⟩ = some (.int .i64 e.v.n) := B0.cell 4
  have ec5 : W.cell? ⟨w.heap.size, 5, none⟩ = some (.string e.v.s) := B0.cell 5
  have ec6 : W.cell? ⟨w.heap.size, 6, none⟩ = some (.slice A1 e.v.l.length c1) := B0.cell 6
  have ec7 : W.cell? ⟨w.heap.size, 7, none⟩ = some (.slice (some ad) e.ar.length c2) := B0.cell 7
  have gc0 : W.cell? ad = some (.int .i64 a.k) := Below.cell_of hbw fc0
  have gc1 : W.cell? ⟨ad.block, ad.off + 1, none⟩ = some (.int .i64 a.op) := Below.cell_of hbw fc1
  have gc2 : W.cell? ⟨ad.block, ad.off + 2, none⟩ = some (.string a.nm) := Below.cell_of hbw fc2
  have gc3 : W.cell? ⟨ad.block, ad.off + 3, none⟩ = some (.int .i64 a.v.k) := Below.cell_of hbw fc3
  have gc4 : W.cell? ⟨ad.block, ad.off + 4, none⟩ = some (.int .i64 a.v.n) := Below.cell_of hbw fc4
  have gc5 : W.cell? ⟨ad.block, ad.off + 5, none⟩ = some (.string a.v.s) := Below.cell_of hbw fc5
  have gc6 : W.cell? ⟨ad.block, ad.off + 6, none⟩ = some (.slice A3 a.v.l.length c3) := Below.cell_of hbw fc6
  have gc7 : W.cell? ⟨ad.block, ad.off + 7, none⟩ = some (.slice A4 a.ar.length c4) := Below.cell_of hbw fc7
  clear hW hsz fc0 fc1 fc2 fc3 fc4 fc5 fc6 fc7
  go_upto_region 12 with (fail)
  obtain ⟨W3, hW3⟩ : ∃ W3, W3 = W.alloc (.cells #[.int .i64 a.k, .int .i64 a.op, .string a.nm, .int .i64 a.v.k, .int .i64 a.v.n, .string a.v.s, .slice A3 a.v.l.length c3, .slice A4 a.ar.length c4] 27 (0, 0)) := ⟨_, rfl⟩
  have hb3 : Below W.heap.size W W3 := hW3 ▸ (Below.refl _ W).alloc (Nat.le_refl _) _
  have B3 : Blk W3 W.heap.size 27 #[.int .i64 a.k, .int .i64 a.op, .string a.nm, .int .i64 a.v.k, .int .i64 a.v.n, .string a.v.s, .slice A3 a.v.l.length c3, .slice A4 a.ar.length c4] := hW3 ▸ Blk.new W _ _
  rw [← hW3]
  have hbw3 := hbw.trans (hb3.mono hbw.size)
  have B0 := B0.below hb3 B0.lt
  have hc0 := Below.cell_of hb3 gc0
  have hc1 := Below.cell_of hb3 gc1
  have hc2 := Below.cell_of hb3 gc2
  have hc3 := Below.cell_of hb3 gc3
  have hc4 := Below.cell_of hb3 gc4
  have hc5 := Below.cell_of hb3 gc5
  have hc6 := Below.cell_of hb3 gc6
  have hc7 := Below.cell_of hb3 gc7
  clear hW3 ec0 ec1 ec2 ec3 ec4 ec5 ec6 ec7 gc0 gc1 gc2 gc3 gc4 gc5 gc6 gc7
  have ec0 : W3.cell? ⟨w.heap.size, 0, none⟩ = some (.int .i64 e.k) := B0.cell 0
  have ec1 : W3.cell? ⟨w.heap.size, 1, none⟩ = some (.int .i64 e.op) := B0.cell 1
  have ec2 : W3.cell? ⟨w.heap.size, 2, none⟩ = some (.string e.nm) := B0.cell 2
  have ec3 : W3.cell? ⟨w.heap.size, 3, none⟩ = some (.int .i64 e.v.k) := B0.cell 3
  have ec4 : W3.cell? ⟨w.heap.size, 4, none⟩ = some (.int .i64 e.v.n) := B0.cell 4
  have ec5 : W3.cell? ⟨w.heap.size, 5, none⟩ = some (.string e.v.s) := B0.cell 5
  have ec6 : W3.cell? ⟨w.heap.size, 6, none⟩ = some (.slice A1 e.v.l.length c1) := B0.cell 6
  have ec7 : W3.cell? ⟨w.heap.size, 7, none⟩ = some (.slice (some ad) e.ar.length c2) := B0.cell 7
  go_wp2_with fail
  refine (rrow_any e B _ W3 (HXX.out W3 hbw3)).mono ?_
  rw [HRN.out]
  rintro en W1 ⟨rfl, hb1⟩
  have hbw1 := hbw3.trans (hb1.mono hbw3.size)
  have B0 := B0.below hb1 B0.lt
  have B3 := B3.below hb1 B3.lt
  have gc0 := Below.cell_of hb1 hc0
  have gc1 := Below.cell_of hb1 hc1
  have gc2 := Below.cell_of hb1 hc2
  have gc3 := Below.cell_of hb1 hc3
  have gc4 := Below.cell_of hb1 hc4
  have gc5 := Below.cell_of hb1 hc5
  have gc6 := Below.cell_of hb1 hc6
  have gc7 := Below.cell_of hb1 hc7
  clear ec0 ec1 ec2 ec3 ec4 ec5 ec6 ec7 hc0 hc1 hc2 hc3 hc4 hc5 hc6 hc7 hb1 hb3 hbw3
  have ec0 : W1.cell? ⟨w.heap.size, 0, none⟩ = some (.int .i64 e.k) := B0.cell 0
  have ec1 : W1.cell? ⟨w.heap.size, 1, none⟩ = some (.int .i64 e.op) := B0.cell 1
  have ec2 : W1.cell? ⟨w.heap.size, 2, none⟩ = some (.string e.nm) := B0.cell 2
  have ec3 : W1.cell? ⟨w.heap.size, 3, none⟩ = some (.int .i64 e.v.k) := B0.cell 3
  have ec4 : W1.cell? ⟨w.heap.size, 4, none⟩ = some (.int .i64 e.v.n) := B0.cell 4
  have ec5 : W1.cell? ⟨w.heap.size, 5, none⟩ = some (.string e.v.s) := B0.cell 5
  have ec6 : W1.cell? ⟨w.heap.size, 6, none⟩ = some (.slice A1 e.v.l.length c1) := B0.cell 6
  have ec7 : W1.cell? ⟨w.heap.size, 7, none⟩ = some (.slice (some ad) e.ar.length c2) := B0.cell 7
  have kc0 : W1.cell? ⟨W.heap.size, 0, none⟩ = some (.int .i64 a.k) := B3.cell 0
  have kc1 : W1.cell? ⟨W.heap.size, 1, none⟩ = some (.int .i64 a.op) := B3.cell 1
  have kc2 : W1.cell? ⟨W.heap.size, 2, none⟩ = some (.string a.nm) := B3.cell 2
  have kc3 : W1.cell? ⟨W.heap.size, 3, none⟩ = some (.int .i64 a.v.k) := B3.cell 3
  have kc4 : W1.cell? ⟨W.heap.size, 4, none⟩ = some (.int .i64 a.v.n) := B3.cell 4
  have kc5 : W1.cell? ⟨W.heap.size, 5, none⟩ = some (.string a.v.s) := B3.cell 5
  have kc6 : W1.cell? ⟨W.heap.size, 6, none⟩ = some (.slice A3 a.v.l.length c3) := B3.cell 6
  have kc7 : W1.cell? ⟨W.heap.size, 7, none⟩ = some (.slice A4 a.ar.length c4) := B3.cell 7
  by_cases d1 : a.k = 1
  · have b1 : (a.k == 1) = true := by simp [d1]
    by_cases d2 : a.v.k = 2
    · have b2 : (a.v.k == 2) = true := by simp [d2]
      by_cases d3 : 0 ≤ a.v.n
      · have HV := Lib.hid (show tx R = ⟨#[45, 40]⟩ ++ t ++ ⟨#[41]⟩ by rw [HR.out, if_pos ⟨d1, d2, d3⟩, ← HTT.out, ← tx_cat, ← tx_cat]; rfl)
        clear d1 d2
        go_wp2_with fail
        refine (HT.out W1 hbw1 _ (HCI.out.keep (hbw1.mono hB))).mono ?_
        rintro en W2 ⟨rfl, hb2⟩
        clear ec0 ec1 ec2 ec3 ec4 ec5 ec6 ec7 kc0 kc1 kc2 kc3 kc4 kc5 kc6 kc7 gc0 gc1 gc2 gc3 gc4 gc5 gc6 gc7 B0 B3
        go_wp2_with fail
        go_ret
        exact ⟨by rw [HV.out]; try rfl, hbw1.trans (hb2.mono hbw1.size)⟩
      · have HV := Lib.hid (show tx R = ⟨#[45]⟩ ++ tp by rw [HR.out, if_neg (by rintro ⟨h1, h2, h3⟩; exact d3 h3), ← HTP.out, ← tx_cat]; rfl)
        clear d1 d2
        go_wp2_with fail
        refine (HJ.out W1 hbw1 _ (HCI.out.keep (hbw1.mono hB))).mono ?_
        rintro en W2 ⟨rfl, hb2⟩
        clear ec0 ec1 ec2 ec3 ec4 ec5 ec6 ec7 kc0 kc1 kc2 kc3 kc4 kc5 kc6 kc7 gc0 gc1 gc2 gc3 gc4 gc5 gc6 gc7 B0 B3
        go_wp2_with fail
        go_ret
        exact ⟨by rw [HV.out]; try rfl, hbw1.trans (hb2.mono hbw1.size)⟩
    · have b2 : (a.v.k == 2) = false := by simp [d2]
      have HV := Lib.hid (show tx R = ⟨#[45]⟩ ++ tp by rw [HR.out, if_neg (by rintro ⟨h1, h2, h3⟩; exact d2 h2), ← HTP.out, ← tx_cat]; rfl)
      clear d1
      go_wp2_with fail
      refine (HJ.out W1 hbw1 _ (HCI.out.keep (hbw1.mono hB))).mono ?_
      rintro en W2 ⟨rfl, hb2⟩
      clear ec0 ec1 ec2 ec3 ec4 ec5 ec6 ec7 kc0 kc1 kc2 kc3 kc4 kc5 kc6 kc7 gc0 gc1 gc2 gc3 gc4 gc5 gc6 gc7 B0 B3
      go_wp2_with fail
      go_ret
      exact ⟨by rw [HV.out]; try rfl, hbw1.trans (hb2.mono hbw1.size)⟩
  · have b1 : (a.k == 1) = false := by simp [d1]
    have HV := Lib.hid (show tx R = ⟨#[45]⟩ ++ tp by rw [HR.out, if_neg (by rintro ⟨h1, h2, h3⟩; exact d1 h1), ← HTP.out, ← tx_cat]; rfl)
    go_wp2_with fail
    refine (HJ.out W1 hbw1 _ (HCI.out.keep (hbw1.mono hB))).mono ?_
    rintro en W2 ⟨rfl, hb2⟩
    clear ec0 ec1 ec2 ec3 ec4 ec5 ec6 ec7 kc0 kc1 kc2 kc3 kc4 kc5 kc6 kc7 gc0 gc1 gc2 gc3 gc4 gc5 gc6 gc7 B0 B3
    go_wp2_with fail
    go_ret
    exact ⟨by rw [HV.out]; try rfl, hbw1.trans (hb2.mono hbw1.size)⟩
set_option maxHeartbeats 4000000 in
set_option maxRecDepth 100000 in
theorem rtext_fun (e : Ex) (hk : e.k = 4) (ho : (12 ≤ e.op ∧ e.op ≤ 14) ∨ 21 ≤ e.op) (hI : ∀ a ∈ e.ar, RTextSpec 26 a) (h9 : ∀ a ∈ e.ar, a.text.length ≤ 1000000000) (hj : ∀ l, ((insL l e.ar).map List.length).sum + 98 * e.ar.length ≤ 999999000) (hla : e.ar.length ≤ 999999) (hP : partF e = 0) (B : Nat) (cs : List Value) (w : World) (hx : ExAt w B e cs) (hB : B ≤ w.heap.size) (htab : Tab w) (hm : MxS w) :
    Calls Tryz.prog 26 #[.agg cs.toArray] w fun en w' => en = .returned (.string (tx (e.text))) ∧ Below w.heap.size w w' := by
  have P := partOk hP
  have HX := Lib.hid hx
  obtain ⟨R, hR⟩ : ∃ R, e.text = R := ⟨_, rfl⟩
  rw [hR]
  have hte := hR.symm.trans (text_eq e)
  have HTM := Lib.hid (fun w' (hb : Below w.heap.size w w') => And.intro (tabIs_below htab hb) (hm.below hb))
  obtain ⟨hn, hs, hl, ha, hx, hr, hi⟩ := hx
  rename_i A1 c1 A2 c2 cs
  have HXX := Lib.hid (fun w' (hb : Below w.heap.size w w') => HX.out.keep (hb.mono hB))
  have hk1 : (e.k == 1) = false := by rw [hk]; rfl
  have hk2 : (e.k == 2) = false := by rw [hk]; rfl
  have hk3 : (e.k == 3) = false := by rw [hk]; rfl
  have hk5 : (e.k == 5) = false := by rw [hk]; rfl
  rw [if_neg (by omega), if_neg (by omega), if_neg (by omega), if_neg (by omega)] at hte
  rw [if_neg (by omega), if_neg (by omega), if_neg (by omega), if_neg (by omega), if_neg (by omega), if_neg (by omega), if_neg (by omega)] at hte
  have HRN := Lib.hid (show rowN e = 8 by unfold rowN; rw [if_neg (by omega), if_neg (by omega)]; rw [if_neg (by omega), if_neg (by omega), if_neg (by omega), if_neg (by omega), if_neg (by omega), if_neg (by omega), if_neg (by omega)])
  have hop := P.op4 hk
  have h10 := hj 1
  have hjl := join_len (insL 1 e.ar) [44, 32]
  rw [ins_len] at hjl
  simp only [List.length_cons, List.length_nil] at hjl
  have HJ := Lib.hid (fun w' (hb : Below w.heap.size w w') => rlist_of e.ar [44, 32] 1 hI h9 (by omega) (by omega) A2 c2 B cs w' (hr.below (hb.mono hB)) (fun i h => (hi i h).keep (hb.mono hB)) (Nat.le_trans hB hb.size) (HTM.out w' hb).1 (HTM.out w' hb).2)
  obtain ⟨t, htt⟩ : ∃ t, tx (Lib.join (insL 1 e.ar) [44, 32]) = t := ⟨_, rfl⟩
  obtain ⟨s, hss⟩ : ∃ t, tx (funcT e.op) = t := ⟨_, rfl⟩
  simp only [htt] at HJ
  have st : t.size ≤ 2000000000 := by rw [← htt, tx_size]; omega
  have sf : s.size ≤ 8 := by rw [← hss, tx_size]; exact func_le e.op
  have HSS := Lib.hid hss
  have HR := Lib.hid (show tx R = s ++ ⟨#[40]⟩ ++ t ++ ⟨#[41]⟩ by rw [hte, ← htt, ← hss, ← tx_cat, ← tx_cat, ← tx_cat]; rfl)
  have HOP := Lib.hid (show 12 ≤ e.op ∧ e.op ≤ 39 ∧ ¬ (15 ≤ e.op ∧ e.op ≤ 20) by omega)
  obtain ⟨q, hq⟩ : ∃ q, e.op - 12 = q := ⟨_, rfl⟩
  have o1 : 0 ≤ q := by omega
  have o2 : q < 28 := by omega
  have ow : IntKind.i64.wrap (e.op - 12) = q := by rw [IntWalk.i64_in _ (by omega)]; exact hq
  have HQ := Lib.hid hq
  have hpos := ar_pos P hk
  obtain ⟨ad, ci0, rfl, hb0, hci0, hcell0⟩ := exs_at hr hi hpos
  have hz := h9 _ (List.getElem_mem hpos)
  have hTa := hI _ (List.getElem_mem hpos)
  obtain ⟨a, hea⟩ : ∃ a, e.ar[0] = a := ⟨_, rfl⟩
  rw [hea] at hci0 hz hTa
  have HCI := Lib.hid hci0
  obtain ⟨z1, z2, z3, z4, hxa, hra, hia⟩ := hci0
  rename_i A3 c3 A4 c4 cs3
  have hcell0' : ∀ j u, (exCells a A3 c3 A4 c4)[j]? = some u → w.cell? (ad.add j) = some u := fun j u hu => by have h := hcell0 j u hu; rwa [Nat.zero_mul, add_zero_ad] at h
  have fc0 : w.cell? (ad) = some (.int .i64 a.k) := hcell0' 0 _ rfl
  have fc1 : w.cell? ⟨(ad).block, (ad).off + 1, none⟩ = some (.int .i64 a.op) := hcell0' 1 _ rfl
  have fc2 : w.cell? ⟨(ad).block, (ad).off + 2, none⟩ = some (.string a.nm) := hcell0' 2 _ rfl
  have fc3 : w.cell? ⟨(ad).block, (ad).off + 3, none⟩ = some (.int .i64 a.v.k) := hcell0' 3 _ rfl
  have fc4 : w.cell? ⟨(ad).block, (ad).off + 4, none⟩ = some (.int .i64 a.v.n) := hcell0' 4 _ rfl
  have fc5 : w.cell? ⟨(ad).block, (ad).off + 5, none⟩ = some (.string a.v.s) := hcell0' 5 _ rfl
  have fc6 : w.cell? ⟨(ad).block, (ad).off + 6, none⟩ = some (.slice A3 a.v.l.length c3) := hcell0' 6 _ rfl
  have fc7 : w.cell? ⟨(ad).block, (ad).off + 7, none⟩ = some (.slice A4 a.ar.length c4) := hcell0' 7 _ rfl
  have hposI : (0 : Int) < (e.ar.length : Nat) := by omega
  clear hx hr hi htab hm hI h9 hj hla hR hte hcell0 hcell0' hxa hra hia hb0 hea z1 z2 z3 z4 P hP hk hpos ho hop h10 hjl htt hss hq hz hTa
  show Calls Tryz.prog 26 #[.agg #[.int .i64 e.k, .int .i64 e.op, .string e.nm, .int .i64 e.v.k, .int .i64 e.v.n, .string e.v.s, .slice A1 e.v.l.length c1, .slice (some ad) e.ar.length c2]] w _
  go_enter Tryz.func26, Tryz.ntmps26
  go_upto_region 1 with (fail)
  obtain ⟨W, hW⟩ : ∃ W, W = (w.alloc (.cells #[.int .i64 e.k, .int .i64 e.op, .string e.nm, .int .i64 e.v.k, .int .i64 e.v.n, .string e.v.s, .slice A1 e.v.l.length c1, .slice (some ad) e.ar.length c2] 27 (0, 0))) := ⟨_, rfl⟩
  have hbw : Below w.heap.size w W := by rw [hW]; exact ((Below.refl _ w).alloc (Nat.le_refl _) _)
  have B0 : Blk W (w.heap.size) 27 #[.int .i64 e.k, .int .i64 e.op, .string e.nm, .int .i64 e.v.k, .int .i64 e.v.n, .string e.v.s, .slice A1 e.v.l.length c1, .slice (some ad) e.ar.length c2] := by
    rw [hW]
    have := Blk.new w 27 #[.int .i64 e.k, .int .i64 e.op, .string e.nm, .int .i64 e.v.k, .int .i64 e.v.n, .string e.v.s, .slice A1 e.v.l.length c1, .slice (some ad) e.ar.length c2]
    exact this
  have hsz : W.heap.size = w.heap.size + 1 := by rw [hW]; simp
  rw [← hW]
  have ec0 : W.cell? ⟨w.heap.size, 0, none⟩ = some (.int .i64 e.k) := B0.cell 0
  have ec1 : W.cell? ⟨w.heap.size, 1, none⟩ = some (.int .i64 e.op) := B0.cell 1
  have ec2 : W.cell? ⟨w.heap.size, 2, none⟩ = some (.string e.nm) := B0.cell 2
  have ec3 : W.cell? ⟨w.heap.size, 3, none⟩ = some (.int .i64 e.v.k) := B0.cell 3
  have ec4 : W.cell? ⟨w.heap.size, 4, none⟩ = some (.int .i64 e.v.n) := B0.cell 4
  have ec5 : W.cell? ⟨w.heap.size, 5, none⟩ = some (.string e.v.s) := B0.cell 5
  have ec6 : W.cell? ⟨w.heap.size, 6, none⟩ = some (.slice A1 e.v.l.length c1) := B0.cell 6
  have ec7 : W.cell? ⟨w.heap.size, 7, none⟩ = some (.slice (some ad) e.ar.length c2) := B0.cell 7
  have gc0 : W.cell? ad = some (.int .i64 a.k) := Below.cell_of hbw fc0
  have gc1 : W.cell? ⟨ad.block, ad.off + 1, none⟩ = some (.int .i64 a.op) := Below.cell_of hbw fc1
  have gc2 : W.cell? ⟨ad.block, ad.off + 2, none⟩ = some (.string a.nm) := Below.cell_of hbw fc2
  have gc3 : W.cell? ⟨ad.block, ad.off + 3, none⟩ = some (.int .i64 a.v.k) := Below.cell_of hbw fc3
  have gc4 : W.cell? ⟨ad.block, ad.off + 4, none⟩ = some (.int .i64 a.v.n) := Below.cell_of hbw fc4
  have gc5 : W.cell? ⟨ad.block, ad.off + 5, none⟩ = some (.string a.v.s) := Below.cell_of hbw fc5
  have gc6 : W.cell? ⟨ad.block, ad.off + 6, none⟩ = some (.slice A3 a.v.l.length c3) := Below.cell_of hbw fc6
  have gc7 : W.cell? ⟨ad.block, ad.off + 7, none⟩ = some (.slice A4 a.ar.length c4) := Below.cell_of hbw fc7
  clear hW hsz fc0 fc1 fc2 fc3 fc4 fc5 fc6 fc7
  go_upto_region 12 with (fail)
  obtain ⟨W3, hW3⟩ : ∃ W3, W3 = W.alloc (.cells #[.int .i64 a.k, .int .i64 a.op, .string a.nm, .int .i64 a.v.k, .int .i64 a.v.n, .string a.v.s, .slice A3 a.v.l.length c3, .slice A4 a.ar.length c4] 27 (0, 0)) := ⟨_, rfl⟩
  have hb3 : Below W.heap.size W W3 := hW3 ▸ (Below.refl _ W).alloc (Nat.le_refl _) _
  have B3 : Blk W3 W.heap.size 27 #[.int .i64 a.k, .int .i64 a.op, .string a.nm, .int .i64 a.v.k, .int .i64 a.v.n, .string a.v.s, .slice A3 a.v.l.length c3, .slice A4 a.ar.length c4] := hW3 ▸ Blk.new W _ _
  rw [← hW3]
  have hbw3 := hbw.trans (hb3.mono hbw.size)
  have B0 := B0.below hb3 B0.lt
  have hc0 := Below.cell_of hb3 gc0
  have hc1 := Below.cell_of hb3 gc1
  have hc2 := Below.cell_of hb3 gc2
  have hc3 := Below.cell_of hb3 gc3
  have hc4 := Below.cell_of hb3 gc4
  have hc5 := Below.cell_of hb3 gc5
  have hc6 := Below.cell_of hb3 gc6
  have hc7 := Below.cell_of hb3 gc7
  clear hW3 ec0 ec1 ec2 ec3 ec4 ec5 ec6 ec7 gc0 gc1 gc2 gc3 gc4 gc5 gc6 gc7
  have ec0 : W3.cell? ⟨w.heap.size, 0, none⟩ = some (.int .i64 e.k) := B0.cell 0
  have ec1 : W3.cell? ⟨w.heap.size, 1, none⟩ = some (.int .i64 e.op) := B0.cell 1
  have ec2 : W3.cell? ⟨w.heap.size, 2, none⟩ = some (.string e.nm) := B0.cell 2
  have ec3 : W3.cell? ⟨w.heap.size, 3, none⟩ = some (.int .i64 e.v.k) := B0.cell 3
  have ec4 : W3.cell? ⟨w.heap.size, 4, none⟩ = some (.int .i64 e.v.n) := B0.cell 4
  have ec5 : W3.cell? ⟨w.heap.size, 5, none⟩ = some (.string e.v.s) := B0.cell 5
  have ec6 : W3.cell? ⟨w.heap.size, 6, none⟩ = some (.slice A1 e.v.l.length c1) := B0.cell 6
  have ec7 : W3.cell? ⟨w.heap.size, 7, none⟩ = some (.slice (some ad) e.ar.length c2) := B0.cell 7
  go_wp2_with fail
  refine (rrow_any e B _ W3 (HXX.out W3 hbw3)).mono ?_
  rw [HRN.out]
  rintro en W1 ⟨rfl, hb1⟩
  have hbw1 := hbw3.trans (hb1.mono hbw3.size)
  have B0 := B0.below hb1 B0.lt
  have B3 := B3.below hb1 B3.lt
  have gc0 := Below.cell_of hb1 hc0
  have gc1 := Below.cell_of hb1 hc1
  have gc2 := Below.cell_of hb1 hc2
  have gc3 := Below.cell_of hb1 hc3
  have gc4 := Below.cell_of hb1 hc4
  have gc5 := Below.cell_of hb1 hc5
  have gc6 := Below.cell_of hb1 hc6
  have gc7 := Below.cell_of hb1 hc7
  clear ec0 ec1 ec2 ec3 ec4 ec5 ec6 ec7 hc0 hc1 hc2 hc3 hc4 hc5 hc6 hc7 hb1 hb3 hbw3
  have ec0 : W1.cell? ⟨w.heap.size, 0, none⟩ = some (.int .i64 e.k) := B0.cell 0
  have ec1 : W1.cell? ⟨w.heap.size, 1, none⟩ = some (.int .i64 e.op) := B0.cell 1
  have ec2 : W1.cell? ⟨w.heap.size, 2, none⟩ = some (.string e.nm) := B0.cell 2
  have ec3 : W1.cell? ⟨w.heap.size, 3, none⟩ = some (.int .i64 e.v.k) := B0.cell 3
  have ec4 : W1.cell? ⟨w.heap.size, 4, none⟩ = some (.int .i64 e.v.n) := B0.cell 4
  have ec5 : W1.cell? ⟨w.heap.size, 5, none⟩ = some (.string e.v.s) := B0.cell 5
  have ec6 : W1.cell? ⟨w.heap.size, 6, none⟩ = some (.slice A1 e.v.l.length c1) := B0.cell 6
  have ec7 : W1.cell? ⟨w.heap.size, 7, none⟩ = some (.slice (some ad) e.ar.length c2) := B0.cell 7
  have kc0 : W1.cell? ⟨W.heap.size, 0, none⟩ = some (.int .i64 a.k) := B3.cell 0
  have kc1 : W1.cell? ⟨W.heap.size, 1, none⟩ = some (.int .i64 a.op) := B3.cell 1
  have kc2 : W1.cell? ⟨W.heap.size, 2, none⟩ = some (.string a.nm) := B3.cell 2
  have kc3 : W1.cell? ⟨W.heap.size, 3, none⟩ = some (.int .i64 a.v.k) := B3.cell 3
  have kc4 : W1.cell? ⟨W.heap.size, 4, none⟩ = some (.int .i64 a.v.n) := B3.cell 4
  have kc5 : W1.cell? ⟨W.heap.size, 5, none⟩ = some (.string a.v.s) := B3.cell 5
  have kc6 : W1.cell? ⟨W.heap.size, 6, none⟩ = some (.slice A3 a.v.l.length c3) := B3.cell 6
  have kc7 : W1.cell? ⟨W.heap.size, 7, none⟩ = some (.slice A4 a.ar.length c4) := B3.cell 7
  have K1 := Lib.hid (show ∀ w', Below W1.heap.size W1 w' → Calls Tryz.prog 64 #[.string ⟨#[97, 110, 115, 119, 101, 114, 101, 100, 32, 97, 115, 107, 101, 100, 32, 114, 101, 97, 115, 111, 110, 32, 45, 32, 45, 32, 45, 32, 45, 32, 45, 32, 45, 32, 97, 98, 115, 32, 102, 108, 111, 111, 114, 32, 114, 111, 117, 110, 100, 32, 109, 105, 110, 32, 109, 97, 120, 32, 105, 102, 32, 101, 108, 115, 101, 32, 115, 105, 122, 101, 32, 99, 111, 100, 101, 32, 108, 111, 119, 101, 114, 32, 106, 111, 105, 110, 32, 98, 101, 103, 105, 110, 115, 32, 104, 111, 108, 100, 115, 32, 121, 101, 97, 114, 32, 109, 111, 110, 116, 104, 32, 100, 97, 121, 32, 100, 97, 121, 115, 32, 97, 103, 101, 32, 108, 97, 116, 101, 114]⟩] w' fun en w'' => ∃ b o, en = .returned (.slice (some ⟨b, o, none⟩) 28 28) ∧ w''.cell? ⟨b, o + q.toNat, none⟩ = some (.string s) ∧ Below W1.heap.size W1 w'' ∧ Below w'.heap.size w' w'' from fun w' hb =>
    (rfuncs_call e.op HOP.out.1 HOP.out.2.1 HOP.out.2.2 w' (HTM.out w' (hbw1.trans (hb.mono hbw1.size))).2.2).mono fun _ w'' ⟨b, o, he, hc, hk⟩ => ⟨b, o, he, by rw [HQ.out, HSS.out] at hc; exact hc, hb.trans (hk.mono hb.size), hk⟩)
  have K2 := Lib.hid (show ∀ w', Below W1.heap.size W1 w' → Calls Tryz.prog 66 #[.slice (some ad) e.ar.length c2, .int .i64 1, .string ⟨#[44, 32]⟩] w' fun en w'' => en = .returned (.string t) ∧ Below W1.heap.size W1 w'' ∧ Below w'.heap.size w' w'' from fun w' hb =>
    (HJ.out w' (hbw1.trans (hb.mono hbw1.size))).mono fun _ _ ⟨he, hk⟩ => ⟨he, hb.trans (hk.mono hb.size), hk⟩)
  have HS := Lib.hid (show ∀ w', Below W1.heap.size W1 w' → w'.cell? ⟨w.heap.size, 1, none⟩ = some (.int .i64 e.op) ∧ w'.cell? ⟨w.heap.size, 7, none⟩ = some (.slice (some ad) e.ar.length c2) ∧ Below W1.heap.size W1 w' from fun w' hb => ⟨Below.cell_of hb ec1, Below.cell_of hb ec7, hb⟩)
  have hq0 : Below W1.heap.size W1 W1 := Below.refl _ _
  clear B0 B3 kc0 kc1 kc2 kc3 kc4 kc5 kc6 kc7 gc0 gc1 gc2 gc3 gc4 gc5 gc6 gc7 HJ
  go_upto_region 29 with (fail)
  refine wp_region_noPanic ?_
  refine wp_region_held_drew (S := (fun w' => w'.cell? ⟨w.heap.size, 1, none⟩ = some (.int .i64 e.op) ∧ w'.cell? ⟨w.heap.size, 7, none⟩ = some (.slice (some ad) e.ar.length c2) ∧ Below W1.heap.size W1 w')) (by kernel_rfl) ?_ (fun hHeld => ?_)
  · ((try dsimp only); (first | exact HS.out _ hq0.drew | exact HS.out _ hq0 | exact HS.out _ hq1 | exact HS.out _ hq3 | exact HS.out _ hqe))
  refine wpAnyH_take (i := 1) (v := ?v1) rfl (by kernel_rfl) (by kernel_rfl) (by kernel_rfl) (fun _ _ _ h => h) (Or.inl ⟨by rfl, ?y1⟩) (by assumption) ?r1
  case y1 => (intro w hSw; (try dsimp only at hSw); go_simp; try with_reducible rfl)
  try simp only [List.getElem_toArray, List.getElem_cons_succ, List.getElem_cons_zero, Act.put, List.setIfInBounds_toArray, List.set_cons_zero, List.set_cons_succ]
  refine wpAnyH_take (i := 2) (v := ?v2) rfl (by kernel_rfl) (by kernel_rfl) (by kernel_rfl) (fun _ _ _ h => h) (Or.inl ⟨by rfl, ?y2⟩) (by assumption) ?r2
  case y2 => (intro w hSw; (try dsimp only at hSw); go_simp; try with_reducible rfl)
  try simp only [List.getElem_toArray, List.getElem_cons_succ, List.getElem_cons_zero, Act.put, List.setIfInBounds_toArray, List.set_cons_zero, List.set_cons_succ]
  refine wpAnyH_take (i := 3) (v := ?v3) rfl (by kernel_rfl) (by kernel_rfl) (by kernel_rfl) (fun _ _ _ h => h) (Or.inl ⟨by rfl, ?y3⟩) (by assumption) ?r3
  case y3 => (intro w hSw; (try dsimp only at hSw); go_simp; try with_reducible rfl)
  try simp only [List.getElem_toArray, List.getElem_cons_succ, List.getElem_cons_zero, Act.put, List.setIfInBounds_toArray, List.set_cons_zero, List.set_cons_succ]
  refine wpAnyH_take (i := 7) (v := ?v4) rfl (by kernel_rfl) (by kernel_rfl) (by kernel_rfl) (fun _ _ _ h => h) (Or.inl ⟨by rfl, ?y4⟩) (by assumption) ?r4
  case y4 => (intro w hSw; (try dsimp only at hSw); go_simp; try with_reducible rfl)
  try simp only [List.getElem_toArray, List.getElem_cons_succ, List.getElem_cons_zero, Act.put, List.setIfInBounds_toArray, List.set_cons_zero, List.set_cons_succ]
  refine wpAnyH_take (i := 8) (v := ?v5) rfl (by kernel_rfl) (by kernel_rfl) (by kernel_rfl) (fun _ _ _ h => h) (Or.inl ⟨by rfl, ?y5⟩) (by assumption) ?r5
  case y5 => (intro w hSw; (try dsimp only at hSw); go_simp; try with_reducible rfl)
  try simp only [List.getElem_toArray, List.getElem_cons_succ, List.getElem_cons_zero, Act.put, List.setIfInBounds_toArray, List.set_cons_zero, List.set_cons_succ]
  refine wpAnyH_ready (rs := [0]) (by kernel_rfl) (by simp) ?_
  refine AllReadyH.cons rfl (fun K hK => ?_) ?_
  · go_simp
    (first | (go_at_call 64; (with_reducible refine (K1.out _ hq0.drew).mono ?_); rintro e1 w1 ⟨b, o, rfl, hoc, hq1, hk1'⟩) | (go_at_call 64; (with_reducible refine (K1.out _ hq3).mono ?_); rintro e1 w1 ⟨b, o, rfl, hoc, hqe, hk1'⟩) | (go_at_call 66; (with_reducible refine (K2.out _ hq0.drew).mono ?_); rintro e3 w3 ⟨rfl, hq3, hk3'⟩) | (go_at_call 66; (with_reducible refine (K2.out _ hq1).mono ?_); rintro e3 w3 ⟨rfl, hqe, hk3'⟩; have hoc3 := Below.cell_of hk3' hoc))
    try go_wp2_with fail
    refine hK.out _ _ ?_ (fun hHeld => ?_)
    · ((try dsimp only); (first | exact HS.out _ hq0.drew | exact HS.out _ hq0 | exact HS.out _ hq1 | exact HS.out _ hq3 | exact HS.out _ hqe))
    clear hK K
    try simp only [List.getElem_toArray, List.getElem_cons_succ, List.getElem_cons_zero, Act.put, List.setIfInBounds_toArray, List.set_cons_zero, List.set_cons_succ]
    refine wpAnyH_take (i := 4) (v := ?v6) rfl (by kernel_rfl) (by kernel_rfl) (by kernel_rfl) (fun _ _ _ h => h) (Or.inl ⟨by rfl, ?y6⟩) (by assumption) ?r6
    case y6 => (intro w hSw; (try dsimp only at hSw); go_simp; try with_reducible rfl)
    try simp only [List.getElem_toArray, List.getElem_cons_succ, List.getElem_cons_zero, Act.put, List.setIfInBounds_toArray, List.set_cons_zero, List.set_cons_succ]
    refine wpAnyH_ready (rs := [5, 9]) (by kernel_rfl) (by simp) ?_
    refine AllReadyH.cons rfl (fun K hK => ?_) ?_
    · go_simp
      try go_wp2_with fail
      refine hK.out _ _ ?_ (fun hHeld => ?_)
      · ((try dsimp only); (first | exact HS.out _ hq0.drew | exact HS.out _ hq0 | exact HS.out _ hq1 | exact HS.out _ hq3 | exact HS.out _ hqe))
      clear hK K
      try simp only [List.getElem_toArray, List.getElem_cons_succ, List.getElem_cons_zero, Act.put, List.setIfInBounds_toArray, List.set_cons_zero, List.set_cons_succ]
      refine wpAnyH_ready (rs := [6, 9]) (by kernel_rfl) (by simp) ?_
      refine AllReadyH.cons rfl (fun K hK => ?_) ?_
      · go_simp
        try go_wp2_with fail
        refine hK.out _ _ ?_ (fun hHeld => ?_)
        · ((try dsimp only); (first | exact HS.out _ hq0.drew | exact HS.out _ hq0 | exact HS.out _ hq1 | exact HS.out _ hq3 | exact HS.out _ hqe))
        clear hK K
        try simp only [List.getElem_toArray, List.getElem_cons_succ, List.getElem_cons_zero, Act.put, List.setIfInBounds_toArray, List.set_cons_zero, List.set_cons_succ]
        refine wpAnyH_ready (rs := [9]) (by kernel_rfl) (by simp) ?_
        refine AllReadyH.cons rfl (fun K hK => ?_) ?_
        · go_simp
          (first | (go_at_call 64; (with_reducible refine (K1.out _ hq0.drew).mono ?_); rintro e1 w1 ⟨b, o, rfl, hoc, hq1, hk1'⟩) | (go_at_call 64; (with_reducible refine (K1.out _ hq3).mono ?_); rintro e1 w1 ⟨b, o, rfl, hoc, hqe, hk1'⟩) | (go_at_call 66; (with_reducible refine (K2.out _ hq0.drew).mono ?_); rintro e3 w3 ⟨rfl, hq3, hk3'⟩) | (go_at_call 66; (with_reducible refine (K2.out _ hq1).mono ?_); rintro e3 w3 ⟨rfl, hqe, hk3'⟩; have hoc3 := Below.cell_of hk3' hoc))
          try go_wp2_with fail
          refine hK.out _ _ ?_ (fun hHeld => ?_)
          · ((try dsimp only); (first | exact HS.out _ hq0.drew | exact HS.out _ hq0 | exact HS.out _ hq1 | exact HS.out _ hq3 | exact HS.out _ hqe))
          clear hK K
          try simp only [List.getElem_toArray, List.getElem_cons_succ, List.getElem_cons_zero, Act.put, List.setIfInBounds_toArray, List.set_cons_zero, List.set_cons_succ]
          refine wpAnyH_ready (rs := [10]) (by kernel_rfl) (by simp) ?_
          refine AllReadyH.cons rfl (fun K hK => ?_) ?_
          · go_simp
            try go_wp2_with fail
            refine hK.out _ _ ?_ (fun hHeld => ?_)
            · ((try dsimp only); (first | exact HS.out _ hq0.drew | exact HS.out _ hq0 | exact HS.out _ hq1 | exact HS.out _ hq3 | exact HS.out _ hqe))
            clear hK K
            try simp only [List.getElem_toArray, List.getElem_cons_succ, List.getElem_cons_zero, Act.put, List.setIfInBounds_toArray, List.set_cons_zero, List.set_cons_succ]
            refine wpAnyH_ready (rs := [11]) (by kernel_rfl) (by simp) ?_
            refine AllReadyH.cons rfl (fun K hK => ?_) ?_
            · go_simp
              try go_wp2_with fail
              refine hK.out _ _ ?_ (fun hHeld => ?_)
              · ((try dsimp only); (first | exact HS.out _ hq0.drew | exact HS.out _ hq0 | exact HS.out _ hq1 | exact HS.out _ hq3 | exact HS.out _ hqe))
              clear hK K
              try simp only [List.getElem_toArray, List.getElem_cons_succ, List.getElem_cons_zero, Act.put, List.setIfInBounds_toArray, List.set_cons_zero, List.set_cons_succ]
              refine wpAnyH_take (i := 12) (v := ?v7) rfl (by kernel_rfl) (by kernel_rfl) (by kernel_rfl) (fun _ _ _ h => h) (Or.inl ⟨by rfl, ?y7⟩) (by assumption) ?r7
              case y7 => (intro w hSw; (try dsimp only at hSw); go_simp; try with_reducible rfl)
              try simp only [List.getElem_toArray, List.getElem_cons_succ, List.getElem_cons_zero, Act.put, List.setIfInBounds_toArray, List.set_cons_zero, List.set_cons_succ]
              refine wpAnyH_done (by kernel_rfl) ?_ _
              refine NoPanic.normal ?_
              have hbwz := hbw1.trans (hqe.mono hbw1.size)
              clear HS K1 K2
              go_wp2_with fail
              go_ret
              exact ⟨by rw [HR.out]; try rfl, hbwz⟩
            exact AllReadyH.nil
          exact AllReadyH.nil
        exact AllReadyH.nil
      refine AllReadyH.cons rfl (fun K hK => ?_) ?_
      · go_simp
        (first | (go_at_call 64; (with_reducible refine (K1.out _ hq0.drew).mono ?_); rintro e1 w1 ⟨b, o, rfl, hoc, hq1, hk1'⟩) | (go_at_call 64; (with_reducible refine (K1.out _ hq3).mono ?_); rintro e1 w1 ⟨b, o, rfl, hoc, hqe, hk1'⟩) | (go_at_call 66; (with_reducible refine (K2.out _ hq0.drew).mono ?_); rintro e3 w3 ⟨rfl, hq3, hk3'⟩) | (go_at_call 66; (with_reducible refine (K2.out _ hq1).mono ?_); rintro e3 w3 ⟨rfl, hqe, hk3'⟩; have hoc3 := Below.cell_of hk3' hoc))
        try go_wp2_with fail
        refine hK.out _ _ ?_ (fun hHeld => ?_)
        · ((try dsimp only); (first | exact HS.out _ hq0.drew | exact HS.out _ hq0 | exact HS.out _ hq1 | exact HS.out _ hq3 | exact HS.out _ hqe))
        clear hK K
        try simp only [List.getElem_toArray, List.getElem_cons_succ, List.getElem_cons_zero, Act.put, List.setIfInBounds_toArray, List.set_cons_zero, List.set_cons_succ]
        refine wpAnyH_ready (rs := [6]) (by kernel_rfl) (by simp) ?_
        refine AllReadyH.cons rfl (fun K hK => ?_) ?_
        · go_simp
          try go_wp2_with fail
          refine hK.out _ _ ?_ (fun hHeld => ?_)
          · ((try dsimp only); (first | exact HS.out _ hq0.drew | exact HS.out _ hq0 | exact HS.out _ hq1 | exact HS.out _ hq3 | exact HS.out _ hqe))
          clear hK K
          try simp only [List.getElem_toArray, List.getElem_cons_succ, List.getElem_cons_zero, Act.put, List.setIfInBounds_toArray, List.set_cons_zero, List.set_cons_succ]
          refine wpAnyH_ready (rs := [10]) (by kernel_rfl) (by simp) ?_
          refine AllReadyH.cons rfl (fun K hK => ?_) ?_
          · go_simp
            try go_wp2_with fail
            refine hK.out _ _ ?_ (fun hHeld => ?_)
            · ((try dsimp only); (first | exact HS.out _ hq0.drew | exact HS.out _ hq0 | exact HS.out _ hq1 | exact HS.out _ hq3 | exact HS.out _ hqe))
            clear hK K
            try simp only [List.getElem_toArray, List.getElem_cons_succ, List.getElem_cons_zero, Act.put, List.setIfInBounds_toArray, List.set_cons_zero, List.set_cons_succ]
            refine wpAnyH_ready (rs := [11]) (by kernel_rfl) (by simp) ?_
            refine AllReadyH.cons rfl (fun K hK => ?_) ?_
            · go_simp
              try go_wp2_with fail
              refine hK.out _ _ ?_ (fun hHeld => ?_)
              · ((try dsimp only); (first | exact HS.out _ hq0.drew | exact HS.out _ hq0 | exact HS.out _ hq1 | exact HS.out _ hq3 | exact HS.out _ hqe))
              clear hK K
              try simp only [List.getElem_toArray, List.getElem_cons_succ, List.getElem_cons_zero, Act.put, List.setIfInBounds_toArray, List.set_cons_zero, List.set_cons_succ]
              refine wpAnyH_take (i := 12) (v := ?v8) rfl (by kernel_rfl) (by kernel_rfl) (by kernel_rfl) (fun _ _ _ h => h) (Or.inl ⟨by rfl, ?y8⟩) (by assumption) ?r8
              case y8 => (intro w hSw; (try dsimp only at hSw); go_simp; try with_reducible rfl)
              try simp only [List.getElem_toArray, List.getElem_cons_succ, List.getElem_cons_zero, Act.put, List.setIfInBounds_toArray, List.set_cons_zero, List.set_cons_succ]
              refine wpAnyH_done (by kernel_rfl) ?_ _
              refine NoPanic.normal ?_
              have hbwz := hbw1.trans (hqe.mono hbw1.size)
              clear HS K1 K2
              go_wp2_with fail
              go_ret
              exact ⟨by rw [HR.out]; try rfl, hbwz⟩
            exact AllReadyH.nil
          exact AllReadyH.nil
        exact AllReadyH.nil
      exact AllReadyH.nil
    refine AllReadyH.cons rfl (fun K hK => ?_) ?_
    · go_simp
      (first | (go_at_call 64; (with_reducible refine (K1.out _ hq0.drew).mono ?_); rintro e1 w1 ⟨b, o, rfl, hoc, hq1, hk1'⟩) | (go_at_call 64; (with_reducible refine (K1.out _ hq3).mono ?_); rintro e1 w1 ⟨b, o, rfl, hoc, hqe, hk1'⟩) | (go_at_call 66; (with_reducible refine (K2.out _ hq0.drew).mono ?_); rintro e3 w3 ⟨rfl, hq3, hk3'⟩) | (go_at_call 66; (with_reducible refine (K2.out _ hq1).mono ?_); rintro e3 w3 ⟨rfl, hqe, hk3'⟩; have hoc3 := Below.cell_of hk3' hoc))
      try go_wp2_with fail
      refine hK.out _ _ ?_ (fun hHeld => ?_)
      · ((try dsimp only); (first | exact HS.out _ hq0.drew | exact HS.out _ hq0 | exact HS.out _ hq1 | exact HS.out _ hq3 | exact HS.out _ hqe))
      clear hK K
      try simp only [List.getElem_toArray, List.getElem_cons_succ, List.getElem_cons_zero, Act.put, List.setIfInBounds_toArray, List.set_cons_zero, List.set_cons_succ]
      refine wpAnyH_ready (rs := [5]) (by kernel_rfl) (by simp) ?_
      refine AllReadyH.cons rfl (fun K hK => ?_) ?_
      · go_simp
        try go_wp2_with fail
        refine hK.out _ _ ?_ (fun hHeld => ?_)
        · ((try dsimp only); (first | exact HS.out _ hq0.drew | exact HS.out _ hq0 | exact HS.out _ hq1 | exact HS.out _ hq3 | exact HS.out _ hqe))
        clear hK K
        try simp only [List.getElem_toArray, List.getElem_cons_succ, List.getElem_cons_zero, Act.put, List.setIfInBounds_toArray, List.set_cons_zero, List.set_cons_succ]
        refine wpAnyH_ready (rs := [6]) (by kernel_rfl) (by simp) ?_
        refine AllReadyH.cons rfl (fun K hK => ?_) ?_
        · go_simp
          try go_wp2_with fail
          refine hK.out _ _ ?_ (fun hHeld => ?_)
          · ((try dsimp only); (first | exact HS.out _ hq0.drew | exact HS.out _ hq0 | exact HS.out _ hq1 | exact HS.out _ hq3 | exact HS.out _ hqe))
          clear hK K
          try simp only [List.getElem_toArray, List.getElem_cons_succ, List.getElem_cons_zero, Act.put, List.setIfInBounds_toArray, List.set_cons_zero, List.set_cons_succ]
          refine wpAnyH_ready (rs := [10]) (by kernel_rfl) (by simp) ?_
          refine AllReadyH.cons rfl (fun K hK => ?_) ?_
          · go_simp
            try go_wp2_with fail
            refine hK.out _ _ ?_ (fun hHeld => ?_)
            · ((try dsimp only); (first | exact HS.out _ hq0.drew | exact HS.out _ hq0 | exact HS.out _ hq1 | exact HS.out _ hq3 | exact HS.out _ hqe))
            clear hK K
            try simp only [List.getElem_toArray, List.getElem_cons_succ, List.getElem_cons_zero, Act.put, List.setIfInBounds_toArray, List.set_cons_zero, List.set_cons_succ]
            refine wpAnyH_ready (rs := [11]) (by kernel_rfl) (by simp) ?_
            refine AllReadyH.cons rfl (fun K hK => ?_) ?_
            · go_simp
              try go_wp2_with fail
              refine hK.out _ _ ?_ (fun hHeld => ?_)
              · ((try dsimp only); (first | exact HS.out _ hq0.drew | exact HS.out _ hq0 | exact HS.out _ hq1 | exact HS.out _ hq3 | exact HS.out _ hqe))
              clear hK K
              try simp only [List.getElem_toArray, List.getElem_cons_succ, List.getElem_cons_zero, Act.put, List.setIfInBounds_toArray, List.set_cons_zero, List.set_cons_succ]
              refine wpAnyH_take (i := 12) (v := ?v9) rfl (by kernel_rfl) (by kernel_rfl) (by kernel_rfl) (fun _ _ _ h => h) (Or.inl ⟨by rfl, ?y9⟩) (by assumption) ?r9
              case y9 => (intro w hSw; (try dsimp only at hSw); go_simp; try with_reducible rfl)
              try simp only [List.getElem_toArray, List.getElem_cons_succ, List.getElem_cons_zero, Act.put, List.setIfInBounds_toArray, List.set_cons_zero, List.set_cons_succ]
              refine wpAnyH_done (by kernel_rfl) ?_ _
              refine NoPanic.normal ?_
              have hbwz := hbw1.trans (hqe.mono hbw1.size)
              clear HS K1 K2
              go_wp2_with fail
              go_ret
              exact ⟨by rw [HR.out]; try rfl, hbwz⟩
            exact AllReadyH.nil
          exact AllReadyH.nil
        exact AllReadyH.nil
      exact AllReadyH.nil
    exact AllReadyH.nil
  exact AllReadyH.nil
theorem rtext_any (e : Ex) : e.fault = 0 → e.parts ≤ 900000 → RTextSpec 26 e := by
  induction e using Ex.ind with
  | h e ih =>
    intro hf hp B cs w hx hB htab hm
    have hpe := parts_eq e
    have hI : ∀ a ∈ e.ar, RTextSpec 26 a := fun a ha => ih a ha (fault_arg hf a ha) (by have := partsL_mem ha; omega)
    have hle : ∀ a ∈ e.ar, a.text.length + 100 ≤ 1000 * a.parts := fun a ha => text_le a (fault_arg hf a ha)
    have h9 : ∀ a ∈ e.ar, a.text.length ≤ 1000000000 := fun a ha => by have := hle a ha; have := partsL_mem ha; omega
    have hj : ∀ l, ((insL l e.ar).map List.length).sum + 98 * e.ar.length ≤ 999999000 := fun l => by have := (ins_le l hle).1; omega
    have hla : e.ar.length ≤ 999999 := by have := len_parts e.ar; omega
    have hP := fault_part hf
    have P := partOk hP
    have hk := P.k
    by_cases k1 : e.k = 1
    · exact rtext_1 e k1 hI h9 hj hla hP B cs w hx hB htab hm
    by_cases k2 : e.k = 2
    · exact rtext_2 e k2 hI h9 hj hla hP B cs w hx hB htab hm
    by_cases k3 : e.k = 3
    · exact rtext_3 e k3 hI h9 hj hla hP B cs w hx hB htab hm
    by_cases k5 : e.k = 5
    · exact rtext_over e k5 hI h9 hj hla hP B cs w hx hB htab hm
    have k4 : e.k = 4 := by omega
    have hop := P.op4 k4
    by_cases o1 : e.op = 1
    · exact rtext_not e k4 o1 hI h9 hj hla hP B cs w hx hB htab hm
    by_cases o2 : e.op = 2
    · exact rtext_and e k4 o2 hI h9 hj hla hP B cs w hx hB htab hm
    by_cases o3 : e.op = 3
    · exact rtext_or e k4 o3 hI h9 hj hla hP B cs w hx hB htab hm
    by_cases o4 : 4 ≤ e.op ∧ e.op ≤ 11
    · exact rtext_cmp e k4 o4 hI h9 hj hla hP B cs w hx hB htab hm
    by_cases o5 : e.op = 15 ∨ e.op = 16
    · exact rtext_sum e k4 o5 hI h9 hj hla hP B cs w hx hB htab hm
    by_cases o6 : e.op = 17 ∨ e.op = 18 ∨ e.op = 19
    · exact rtext_prod e k4 o6 hI h9 hj hla hP B cs w hx hB htab hm
    by_cases o7 : e.op = 20
    · exact rtext_neg e k4 o7 hI h9 hj hla hP B cs w hx hB htab hm
    exact rtext_fun e k4 (by omega) hI h9 hj hla hP B cs w hx hB htab hm
end Go.Proofs.YtcmccjcelchlhaaGreatDoor
