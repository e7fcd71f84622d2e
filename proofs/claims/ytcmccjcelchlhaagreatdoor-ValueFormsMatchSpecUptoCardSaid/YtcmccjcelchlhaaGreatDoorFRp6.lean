/- The walks of the reference's write, operations with a sign. -/
import Derived.Test.YtcmccjcelchlhaaGreatDoorFRp5
import Derived.Deep.DrawnRows
import Derived.Deep.RegionHeld3
import Derived.IntWalk
namespace Go.Proofs.YtcmccjcelchlhaaGreatDoor
open Go.RowKit
attribute [local go_sem ↓] Go.wp_at_zero Go.wp_at_succ

set_option maxHeartbeats 4000000 in
set_option maxRecDepth 100000 in
theorem rtext_cmp (e : Ex) (hk : e.k = 4) (ho : 4 ≤ e.op ∧ e.op ≤ 11) (hI : ∀ a ∈ e.ar, RTextSpec 26 a) (h9 : ∀ a ∈ e.ar, a.text.length ≤ 1000000000) (hj : ∀ l, ((insL l e.ar).map List.length).sum + 98 * e.ar.length ≤ 999999000) (hla : e.ar.length ≤ 999999) (hP : partF e = 0) (B : Nat) (cs : List Value) (w : World) (hx : ExAt w B e cs) (hB : B ≤ w.heap.size) (htab : Tab w) (hm : MxS w) :
    Calls Tryz.prog 26 #[.agg cs.toArray] w fun en w' => en = .returned (.string (tx (e.text))) ∧ Below w.heap.size w w' := by
  have P := partOk hP
  have HX := Lib.hid hx
  obtain ⟨R, hR⟩ : ∃ R, e.text = R := ⟨_, rfl⟩
  rw [hR]
  have hte := hR.symm.trans (text_eq e)
  have HTM := Lib.hid (fun w' (hb : Below w.heap.size w w') => And.intro (tabIs_below htab hb) (hm.below hb))
  obtain ⟨hn, hs, hl, ha, hx, hr, hi⟩ := hx
  rename_i A1 c1 A2 c2 cs
  have HXX := Lib.hid (fun w' (hb : Below w.heap.size w w') => HX.out.keep (hb.mono hB))
  have hk1 : (e.k == 1) = false := by rw [hk]; rfl
  have hk2 : (e.k == 2) = false := by rw [hk]; rfl
  have hk3 : (e.k == 3) = false := by rw [hk]; rfl
  have hk5 : (e.k == 5) = false := by rw [hk]; rfl
  rw [if_neg (by omega), if_neg (by omega), if_neg (by omega), if_neg (by omega)] at hte
  rw [if_neg (by omega), if_neg (by omega), if_neg (by omega), if_pos ho] at hte
  have HRN := Lib.hid (show rowN e = 4 by unfold rowN; rw [if_neg (by omega), if_neg (by omega)]; rw [if_neg (by omega), if_neg (by omega), if_neg (by omega), if_pos ho])
  have hal := P.a4 hk
  have h2 : e.ar.length = 2 := by
    unfold arOf at hal
    rw [if_neg (by omega), if_neg (by omega), if_neg (by omega), if_pos (by omega)] at hal
    have h1 : (2 : Nat) ≤ e.ar.length := hal.1
    have h3 : e.ar.length ≤ (2 : Nat) := hal.2
    omega
  have hpos := ar_pos P hk
  obtain ⟨ad, ci0, rfl, hb0, hci0, hcell0⟩ := exs_at hr hi hpos
  have hz := h9 _ (List.getElem_mem hpos)
  have hTa := hI _ (List.getElem_mem hpos)
  obtain ⟨a, hea⟩ : ∃ a, e.ar[0] = a := ⟨_, rfl⟩
  have hg := ins_get 5 e.ar 0 hpos
  rw [hea] at hg
  rw [hea] at hci0 hz hTa
  have HCI := Lib.hid hci0
  obtain ⟨z1, z2, z3, z4, hxa, hra, hia⟩ := hci0
  rename_i A3 c3 A4 c4 cs3
  have hcell0' : ∀ j u, (exCells a A3 c3 A4 c4)[j]? = some u → w.cell? (ad.add j) = some u := fun j u hu => by have h := hcell0 j u hu; rwa [Nat.zero_mul, add_zero_ad] at h
  have fc0 : w.cell? (ad) = some (.int .i64 a.k) := hcell0' 0 _ rfl
  have fc1 : w.cell? ⟨(ad).block, (ad).off + 1, none⟩ = some (.int .i64 a.op) := hcell0' 1 _ rfl
  have fc2 : w.cell? ⟨(ad).block, (ad).off + 2, none⟩ = some (.string a.nm) := hcell0' 2 _ rfl
  have fc3 : w.cell? ⟨(ad).block, (ad).off + 3, none⟩ = some (.int .i64 a.v.k) := hcell0' 3 _ rfl
  have fc4 : w.cell? ⟨(ad).block, (ad).off + 4, none⟩ = some (.int .i64 a.v.n) := hcell0' 4 _ rfl
  have fc5 : w.cell? ⟨(ad).block, (ad).off + 5, none⟩ = some (.string a.v.s) := hcell0' 5 _ rfl
  have fc6 : w.cell? ⟨(ad).block, (ad).off + 6, none⟩ = some (.slice A3 a.v.l.length c3) := hcell0' 6 _ rfl
  have fc7 : w.cell? ⟨(ad).block, (ad).off + 7, none⟩ = some (.slice A4 a.ar.length c4) := hcell0' 7 _ rfl
  obtain ⟨ad', ci1, had, hb1, hci1, hcell1⟩ := exs_at hr hi (show 1 < e.ar.length by omega)
  injection had with had
  subst had
  have hg1 := ins_get 5 e.ar 1 (by omega)
  have hz1 := h9 _ (List.getElem_mem (show 1 < e.ar.length by omega))
  have hTb := hI _ (List.getElem_mem (show 1 < e.ar.length by omega))
  obtain ⟨b, heb⟩ : ∃ b, e.ar[1] = b := ⟨_, rfl⟩
  rw [heb] at hci1 hg1 hz1 hTb
  have HCB := Lib.hid hci1
  obtain ⟨y1, y2, y3, y4, hxb, hrb, hib⟩ := hci1
  rename_i A5 c5 A6 c6 cs4
  have hcell1' : ∀ j u, (exCells b A5 c5 A6 c6)[j]? = some u → w.cell? ((ad.add 8).add j) = some u := fun j u hu => by have h := hcell1 j u hu; rwa [Nat.one_mul] at h
  have mc0 : w.cell? ⟨ad.block, ad.off + 8, none⟩ = some (.int .i64 b.k) := hcell1' 0 _ rfl
  have mc1 : w.cell? ⟨ad.block, ad.off + 8 + 1, none⟩ = some (.int .i64 b.op) := hcell1' 1 _ rfl
  have mc2 : w.cell? ⟨ad.block, ad.off + 8 + 2, none⟩ = some (.string b.nm) := hcell1' 2 _ rfl
  have mc3 : w.cell? ⟨ad.block, ad.off + 8 + 3, none⟩ = some (.int .i64 b.v.k) := hcell1' 3 _ rfl
  have mc4 : w.cell? ⟨ad.block, ad.off + 8 + 4, none⟩ = some (.int .i64 b.v.n) := hcell1' 4 _ rfl
  have mc5 : w.cell? ⟨ad.block, ad.off + 8 + 5, none⟩ = some (.string b.v.s) := hcell1' 5 _ rfl
  have mc6 : w.cell? ⟨ad.block, ad.off + 8 + 6, none⟩ = some (.slice A5 b.v.l.length c5) := hcell1' 6 _ rfl
  have mc7 : w.cell? ⟨ad.block, ad.off + 8 + 7, none⟩ = some (.slice A6 b.ar.length c6) := hcell1' 7 _ rfl
  have hposI : (0 : Int) < (e.ar.length : Nat) := by omega
  obtain ⟨t0, ht0⟩ : ∃ t, tx (parT (decide (rowN a < 5)) a.text) = t := ⟨_, rfl⟩
  obtain ⟨t1, ht1⟩ : ∃ t, tx (parT (decide (rowN b < 5)) b.text) = t := ⟨_, rfl⟩
  obtain ⟨tw, htw⟩ : ∃ t, tx (infixT e.op) = t := ⟨_, rfl⟩
  have hp0 := par_le (decide (rowN a < 5)) a.text
  have hp1 := par_le (decide (rowN b < 5)) b.text
  have hwl := infix_le e.op
  have s0 : t0.size ≤ 2000000000 := by rw [← ht0, tx_size]; omega
  have s1 : t1.size ≤ 2000000000 := by rw [← ht1, tx_size]; omega
  have sw : tw.size ≤ 3 := by rw [← htw, tx_size]; omega
  have HJ := Lib.hid (fun w' (hb : Below w.heap.size w w') cs' (hx' : ExAt w' B a cs') => inside_of a 5 hTa hz B cs' w' hx' (Nat.le_trans hB hb.size) (HTM.out w' hb).1 (HTM.out w' hb).2)
  have HK := Lib.hid (fun w' (hb : Below w.heap.size w w') cs' (hx' : ExAt w' B b cs') => inside_of b 5 hTb hz1 B cs' w' hx' (Nat.le_trans hB hb.size) (HTM.out w' hb).1 (HTM.out w' hb).2)
  simp only [ht0] at HJ
  simp only [ht1] at HK
  have HTW := Lib.hid htw
  have HR := Lib.hid (show tx R = t0 ++ ⟨#[32]⟩ ++ tw ++ ⟨#[32]⟩ ++ t1 by rw [hte, hg, hg1, ← ht0, ← ht1, ← htw, ← tx_cat, ← tx_cat, ← tx_cat, ← tx_cat]; rfl)
  clear hx hr hi htab hm hI h9 hj hla hR hte hcell0 hcell0' hxa hra hia hb0 hea z1 z2 z3 z4 P hP hk hpos ho hz hTa hg hal hTb hz1 hg1 ht0 ht1 htw hp0 hp1 hwl hcell1 hcell1' hxb hrb hib hb1 heb y1 y2 y3 y4
  show Calls Tryz.prog 26 #[.agg #[.int .i64 e.k, .int .i64 e.op, .string e.nm, .int .i64 e.v.k, .int .i64 e.v.n, .string e.v.s, .slice A1 e.v.l.length c1, .slice (some ad) e.ar.length c2]] w _
  change Hid (∀ w', Below w.heap.size w w' → ExAt w' B e [.int .i64 e.k, .int .i64 e.op, .string e.nm, .int .i64 e.v.k, .int .i64 e.v.n, .string e.v.s, .slice A1 e.v.l.length c1, .slice (some ad) e.ar.length c2]) at HXX
  rw [h2] at HXX hposI
  rw [h2]
  clear h2
  go_enter Tryz.func26, Tryz.ntmps26
  go_upto_region 1 with (fail)
  obtain ⟨W, hW⟩ : ∃ W, W = (w.alloc (.cells #[.int .i64 e.k, .int .i64 e.op, .string e.nm, .int .i64 e.v.k, .int .i64 e.v.n, .string e.v.s, .slice A1 e.v.l.length c1, .slice (some ad) 2 c2] 27 (0, 0))) := ⟨_, rfl⟩
  have hbw : Below w.heap.size w W := by rw [hW]; exact ((Below.refl _ w).alloc (Nat.le_refl _) _)
  have B0 : Blk W (w.heap.size) 27 #[.int .i64 e.k, .int .i64 e.op, .string e.nm, .int .i64 e.v.k, .int .i64 e.v.n, .string e.v.s, .slice A1 e.v.l.length c1, .slice (some ad) 2 c2] := by
    rw [hW]
    have := Blk.new w 27 #[.int .i64 e.k, .int .i64 e.op, .string e.nm, .int .i64 e.v.k, .int .i64 e.v.n, .string e.v.s, .slice A1 e.v.l.length c1, .slice (some ad) 2 c2]
    exact this
  have hsz : W.heap.size = w.heap.size + 1 := by rw [hW]; simp
  rw [← hW]
  have ec0 : W.cell? ⟨w.heap.size, 0, none⟩ = some (.int .i64 e.k) := B0.cell 0
  have ec1 : W.cell? ⟨w.heap.size, 1, none⟩ = some (.int .i64 e.op) := B0.cell 1
  have ec2 : W.cell? ⟨w.heap.size, 2, none⟩ = some (.string e.nm) := B0.cell 2
  have ec3 : W.cell? ⟨w.heap.size, 3, none⟩ = some (.int .i64 e.v.k) := B0.cell 3
  have ec4 : W.cell? ⟨w.heap.size, 4, none⟩ = some (.int .i64 e.v.n) := B0.cell 4
  have ec5 : W.cell? ⟨w.heap.size, 5, none⟩ = some (.string e.v.s) := B0.cell 5
  have ec6 : W.cell? ⟨w.heap.size, 6, none⟩ = some (.slice A1 e.v.l.length c1) := B0.cell 6
  have ec7 : W.cell? ⟨w.heap.size, 7, none⟩ = some (.slice (some ad) 2 c2) := B0.cell 7
  have gc0 : W.cell? ad = some (.int .i64 a.k) := Below.cell_of hbw fc0
  have gc1 : W.cell? ⟨ad.block, ad.off + 1, none⟩ = some (.int .i64 a.op) := Below.cell_of hbw fc1
  have gc2 : W.cell? ⟨ad.block, ad.off + 2, none⟩ = some (.string a.nm) := Below.cell_of hbw fc2
  have gc3 : W.cell? ⟨ad.block, ad.off + 3, none⟩ = some (.int .i64 a.v.k) := Below.cell_of hbw fc3
  have gc4 : W.cell? ⟨ad.block, ad.off + 4, none⟩ = some (.int .i64 a.v.n) := Below.cell_of hbw fc4
  have gc5 : W.cell? ⟨ad.block, ad.off + 5, none⟩ = some (.string a.v.s) := Below.cell_of hbw fc5
  have gc6 : W.cell? ⟨ad.block, ad.off + 6, none⟩ = some (.slice A3 a.v.l.length c3) := Below.cell_of hbw fc6
  have gc7 : W.cell? ⟨ad.block, ad.off + 7, none⟩ = some (.slice A4 a.ar.length c4) := Below.cell_of hbw fc7
  clear hW hsz fc0 fc1 fc2 fc3 fc4 fc5 fc6 fc7
  go_upto_region 12 with (fail)
  obtain ⟨W3, hW3⟩ : ∃ W3, W3 = W.alloc (.cells #[.int .i64 a.k, .int .i64 a.op, .string a.nm, .int .i64 a.v.k, .int .i64 a.v.n, .string a.v.s, .slice A3 a.v.l.length c3, .slice A4 a.ar.length c4] 27 (0, 0)) := ⟨_, rfl⟩
  have hb3 : Below W.heap.size W W3 := hW3 ▸ (Below.refl _ W).alloc (Nat.le_refl _) _
  have B3 : Blk W3 W.heap.size 27 #[.int .i64 a.k, .int .i64 a.op, .string a.nm, .int .i64 a.v.k, .int .i64 a.v.n, .string a.v.s, .slice A3 a.v.l.length c3, .slice A4 a.ar.length c4] := hW3 ▸ Blk.new W _ _
  rw [← hW3]
  have hbw3 := hbw.trans (hb3.mono hbw.size)
  have B0 := B0.below hb3 B0.lt
  have hc0 := Below.cell_of hb3 gc0
  have hc1 := Below.cell_of hb3 gc1
  have hc2 := Below.cell_of hb3 gc2
  have hc3 := Below.cell_of hb3 gc3
  have hc4 := Below.cell_of hb3 gc4
  have hc5 := Below.cell_of hb3 gc5
  have hc6 := Below.cell_of hb3 gc6
  have hc7 := Below.cell_of hb3 gc7
  clear hW3 ec0 ec1 ec2 ec3 ec4 ec5 ec6 ec7 gc0 gc1 gc2 gc3 gc4 gc5 gc6 gc7
  have ec0 : W3.cell? ⟨w.heap.size, 0, none⟩ = some (.int .i64 e.k) := B0.cell 0
  have ec1 : W3.cell? ⟨w.heap.size, 1, none⟩ = some (.int .i64 e.op) := B0.cell 1
  have ec2 : W3.cell? ⟨w.heap.size, 2, none⟩ = some (.string e.nm) := B0.cell 2
  have ec3 : W3.cell? ⟨w.heap.size, 3, none⟩ = some (.int .i64 e.v.k) := B0.cell 3
  have ec4 : W3.cell? ⟨w.heap.size, 4, none⟩ = some (.int .i64 e.v.n) := B0.cell 4
  have ec5 : W3.cell? ⟨w.heap.size, 5, none⟩ = some (.string e.v.s) := B0.cell 5
  have ec6 : W3.cell? ⟨w.heap.size, 6, none⟩ = some (.slice A1 e.v.l.length c1) := B0.cell 6
  have ec7 : W3.cell? ⟨w.heap.size, 7, none⟩ = some (.slice (some ad) 2 c2) := B0.cell 7
  go_wp2_with fail
  refine (rrow_any e B _ W3 (HXX.out W3 hbw3)).mono ?_
  rw [HRN.out]
  rintro en W1 ⟨rfl, hb1⟩
  have hbw1 := hbw3.trans (hb1.mono hbw3.size)
  have B0 := B0.below hb1 B0.lt
  have B3 := B3.below hb1 B3.lt
  have gc0 := Below.cell_of hb1 hc0
  have gc1 := Below.cell_of hb1 hc1
  have gc2 := Below.cell_of hb1 hc2
  have gc3 := Below.cell_of hb1 hc3
  have gc4 := Below.cell_of hb1 hc4
  have gc5 := Below.cell_of hb1 hc5
  have gc6 := Below.cell_of hb1 hc6
  have gc7 := Below.cell_of hb1 hc7
  clear ec0 ec1 ec2 ec3 ec4 ec5 ec6 ec7 hc0 hc1 hc2 hc3 hc4 hc5 hc6 hc7 hb1 hb3 hbw3
  have ec0 : W1.cell? ⟨w.heap.size, 0, none⟩ = some (.int .i64 e.k) := B0.cell 0
  have ec1 : W1.cell? ⟨w.heap.size, 1, none⟩ = some (.int .i64 e.op) := B0.cell 1
  have ec2 : W1.cell? ⟨w.heap.size, 2, none⟩ = some (.string e.nm) := B0.cell 2
  have ec3 : W1.cell? ⟨w.heap.size, 3, none⟩ = some (.int .i64 e.v.k) := B0.cell 3
  have ec4 : W1.cell? ⟨w.heap.size, 4, none⟩ = some (.int .i64 e.v.n) := B0.cell 4
  have ec5 : W1.cell? ⟨w.heap.size, 5, none⟩ = some (.string e.v.s) := B0.cell 5
  have ec6 : W1.cell? ⟨w.heap.size, 6, none⟩ = some (.slice A1 e.v.l.length c1) := B0.cell 6
  have ec7 : W1.cell? ⟨w.heap.size, 7, none⟩ = some (.slice (some ad) 2 c2) := B0.cell 7
  have kc0 : W1.cell? ⟨W.heap.size, 0, none⟩ = some (.int .i64 a.k) := B3.cell 0
  have kc1 : W1.cell? ⟨W.heap.size, 1, none⟩ = some (.int .i64 a.op) := B3.cell 1
  have kc2 : W1.cell? ⟨W.heap.size, 2, none⟩ = some (.string a.nm) := B3.cell 2
  have kc3 : W1.cell? ⟨W.heap.size, 3, none⟩ = some (.int .i64 a.v.k) := B3.cell 3
  have kc4 : W1.cell? ⟨W.heap.size, 4, none⟩ = some (.int .i64 a.v.n) := B3.cell 4
  have kc5 : W1.cell? ⟨W.heap.size, 5, none⟩ = some (.string a.v.s) := B3.cell 5
  have kc6 : W1.cell? ⟨W.heap.size, 6, none⟩ = some (.slice A3 a.v.l.length c3) := B3.cell 6
  have kc7 : W1.cell? ⟨W.heap.size, 7, none⟩ = some (.slice A4 a.ar.length c4) := B3.cell 7
  have k1 : ∀ w', Below W1.heap.size W1 w' → Calls Tryz.prog 67 #[.agg #[.int .i64 a.k, .int .i64 a.op, .string a.nm, .int .i64 a.v.k, .int .i64 a.v.n, .string a.v.s, .slice A3 a.v.l.length c3, .slice A4 a.ar.length c4], .int .i64 5] w' fun en w'' => en = .returned (.string t0) ∧ Below w'.heap.size w' w'' := fun w' hb => HJ.out w' (hbw1.trans (hb.mono hbw1.size)) _ (HCI.out.keep ((hbw1.trans (hb.mono hbw1.size)).mono hB))
  have k2 : ∀ w', Below W1.heap.size W1 w' → Calls Tryz.prog 67 #[.agg #[.int .i64 b.k, .int .i64 b.op, .string b.nm, .int .i64 b.v.k, .int .i64 b.v.n, .string b.v.s, .slice A5 b.v.l.length c5, .slice A6 b.ar.length c6], .int .i64 5] w' fun en w'' => en = .returned (.string t1) ∧ Below w'.heap.size w' w'' := fun w' hb => HK.out w' (hbw1.trans (hb.mono hbw1.size)) _ (HCB.out.keep ((hbw1.trans (hb.mono hbw1.size)).mono hB))
  have k3 : ∀ w', Below W1.heap.size W1 w' → Calls Tryz.prog 68 #[.int .i64 e.op] w' fun en w'' => en = .returned (.string tw) ∧ Below w'.heap.size w' w'' := fun w' hb => by have h := rinfix_any e.op w'; rwa [HTW.out] at h
  have K1 := Lib.hid (Later.call k1)
  have K2 := Lib.hid (Later.call k2)
  have K3 := Lib.hid (Later.call k3)
  have q0 := Later.cell ec1
  have q1 := Later.cell ec7
  have u0 := Later.cell kc0
  have v0 := Later.cell (Below.cell_of hbw1 mc0)
  have u1 := Later.cell kc1
  have v1 := Later.cell (Below.cell_of hbw1 mc1)
  have u2 := Later.cell kc2
  have v2 := Later.cell (Below.cell_of hbw1 mc2)
  have u3 := Later.cell kc3
  have v3 := Later.cell (Below.cell_of hbw1 mc3)
  have u4 := Later.cell kc4
  have v4 := Later.cell (Below.cell_of hbw1 mc4)
  have u5 := Later.cell kc5
  have v5 := Later.cell (Below.cell_of hbw1 mc5)
  have u6 := Later.cell kc6
  have v6 := Later.cell (Below.cell_of hbw1 mc6)
  have u7 := Later.cell kc7
  have v7 := Later.cell (Below.cell_of hbw1 mc7)
  clear k1 k2 k3 HJ HK HTW ec0 ec1 ec2 ec3 ec4 ec5 ec6 ec7 kc0 kc1 kc2 kc3 kc4 kc5 kc6 kc7 gc0 gc1 gc2 gc3 gc4 gc5 gc6 gc7 B0 B3 mc0 mc1 mc2 mc3 mc4 mc5 mc6 mc7
  go_upto_region 21 with (fail)
  refine wp_region_later (by kernel_rfl) (by kernel_rfl) ?_
  repeat (go_big_quiet_step (first | with_reducible exact K1.out _ | with_reducible exact K2.out _ | with_reducible exact K3.out _))
  refine wpQuiet_nil ?_
  intro W9 hw'
  have hb9 := later_h hw'
  clear hw'
  go_wp2_with fail
  go_ret
  exact ⟨by rw [HR.out]; try rfl, hbw1.trans (hb9.mono hbw1.size)⟩
set_option maxHeartbeats 4000000 in
set_option maxRecDepth 100000 in
theorem rtext_sum (e : Ex) (hk : e.k = 4) (ho : e.op = 15 ∨ e.op = 16) (hI : ∀ a ∈ e.ar, RTextSpec 26 a) (h9 : ∀ a ∈ e.ar, a.text.length ≤ 1000000000) (hj : ∀ l, ((insL l e.ar).map List.length).sum + 98 * e.ar.length ≤ 999999000) (hla : e.ar.length ≤ 999999) (hP : partF e = 0) (B : Nat) (cs : List Value) (w : World) (hx : ExAt w B e cs) (hB : B ≤ w.heap.size) (htab : Tab w) (hm : MxS w) :
    Calls Tryz.prog 26 #[.agg cs.toArray] w fun en w' => en = .returned (.string (tx (e.text))) ∧ Below w.heap.size w w' := by
  have P := partOk hP
  have HX := Lib.hid hx
  obtain ⟨R, hR⟩ : ∃ R, e.text = R := ⟨_, rfl⟩
  rw [hR]
  have hte := hR.symm.trans (text_eq e)
  have HTM := Lib.hid (fun w' (hb : Below w.heap.size w w') => And.intro (tabIs_below htab hb) (hm.below hb))
  obtain ⟨hn, hs, hl, ha, hx, hr, hi⟩ := hx
  rename_i A1 c1 A2 c2 cs
  have HXX := Lib.hid (fun w' (hb : Below w.heap.size w w') => HX.out.keep (hb.mono hB))
  have hk1 : (e.k == 1) = false := by rw [hk]; rfl
  have hk2 : (e.k == 2) = false := by rw [hk]; rfl
  have hk3 : (e.k == 3) = false := by rw [hk]; rfl
  have hk5 : (e.k == 5) = false := by rw [hk]; rfl
  rw [if_neg (by omega), if_neg (by omega), if_neg (by omega), if_neg (by omega)] at hte
  rw [if_neg (by omega), if_neg (by omega), if_neg (by omega), if_neg (by omega), if_pos ho] at hte
  have HRN := Lib.hid (show rowN e = 5 by unfold rowN; rw [if_neg (by omega), if_neg (by omega)]; rw [if_neg (by omega), if_neg (by omega), if_neg (by omega), if_neg (by omega), if_pos ho])
  have hal := P.a4 hk
  have h2 : e.ar.length = 2 := by
    unfold arOf at hal
    rw [if_neg (by omega), if_neg (by omega), if_neg (by omega), if_pos (by omega)] at hal
    have h1 : (2 : Nat) ≤ e.ar.length := hal.1
    have h3 : e.ar.length ≤ (2 : Nat) := hal.2
    omega
  have hpos := ar_pos P hk
  obtain ⟨ad, ci0, rfl, hb0, hci0, hcell0⟩ := exs_at hr hi hpos
  have hz := h9 _ (List.getElem_mem hpos)
  have hTa := hI _ (List.getElem_mem hpos)
  obtain ⟨a, hea⟩ : ∃ a, e.ar[0] = a := ⟨_, rfl⟩
  have hg := ins_get 5 e.ar 0 hpos
  rw [hea] at hg
  rw [hea] at hci0 hz hTa
  have HCI := Lib.hid hci0
  obtain ⟨z1, z2, z3, z4, hxa, hra, hia⟩ := hci0
  rename_i A3 c3 A4 c4 cs3
  have hcell0' : ∀ j u, (exCells a A3 c3 A4 c4)[j]? = some u → w.cell? (ad.add j) = some u := fun j u hu => by have h := hcell0 j u hu; rwa [Nat.zero_mul, add_zero_ad] at h
  have fc0 : w.cell? (ad) = some (.int .i64 a.k) := hcell0' 0 _ rfl
  have fc1 : w.cell? ⟨(ad).block, (ad).off + 1, none⟩ = some (.int .i64 a.op) := hcell0' 1 _ rfl
  have fc2 : w.cell? ⟨(ad).block, (ad).off + 2, none⟩ = some (.string a.nm) := hcell0' 2 _ rfl
  have fc3 : w.cell? ⟨(ad).block, (ad).off + 3, none⟩ = some (.int .i64 a.v.k) := hcell0' 3 _ rfl
  have fc4 : w.cell? ⟨(ad).block, (ad).off + 4, none⟩ = some (.int .i64 a.v.n) := hcell0' 4 _ rfl
  have fc5 : w.cell? ⟨(ad).block, (ad).off + 5, none⟩ = some (.string a.v.s) := hcell0' 5 _ rfl
  have fc6 : w.cell? ⟨(ad).block, (ad).off + 6, none⟩ = some (.slice A3 a.v.l.length c3) := hcell0' 6 _ rfl
  have fc7 : w.cell? ⟨(ad).block, (ad).off + 7, none⟩ = some (.slice A4 a.ar.length c4) := hcell0' 7 _ rfl
  obtain ⟨ad', ci1, had, hb1, hci1, hcell1⟩ := exs_at hr hi (show 1 < e.ar.length by omega)
  injection had with had
  subst had
  have hg1 := ins_get 6 e.ar 1 (by omega)
  have hz1 := h9 _ (List.getElem_mem (show 1 < e.ar.length by omega))
  have hTb := hI _ (List.getElem_mem (show 1 < e.ar.length by omega))
  obtain ⟨b, heb⟩ : ∃ b, e.ar[1] = b := ⟨_, rfl⟩
  rw [heb] at hci1 hg1 hz1 hTb
  have HCB := Lib.hid hci1
  obtain ⟨y1, y2, y3, y4, hxb, hrb, hib⟩ := hci1
  rename_i A5 c5 A6 c6 cs4
  have hcell1' : ∀ j u, (exCells b A5 c5 A6 c6)[j]? = some u → w.cell? ((ad.add 8).add j) = some u := fun j u hu => by have h := hcell1 j u hu; rwa [Nat.one_mul] at h
  have mc0 : w.cell? ⟨ad.block, ad.off + 8, none⟩ = some (.int .i64 b.k) := hcell1' 0 _ rfl
  have mc1 : w.cell? ⟨ad.block, ad.off + 8 + 1, none⟩ = some (.int .i64 b.op) := hcell1' 1 _ rfl
  have mc2 : w.cell? ⟨ad.block, ad.off + 8 + 2, none⟩ = some (.string b.nm) := hcell1' 2 _ rfl
  have mc3 : w.cell? ⟨ad.block, ad.off + 8 + 3, none⟩ = some (.int .i64 b.v.k) := hcell1' 3 _ rfl
  have mc4 : w.cell? ⟨ad.block, ad.off + 8 + 4, none⟩ = some (.int .i64 b.v.n) := hcell1' 4 _ rfl
  have mc5 : w.cell? ⟨ad.block, ad.off + 8 + 5, none⟩ = some (.string b.v.s) := hcell1' 5 _ rfl
  have mc6 : w.cell? ⟨ad.block, ad.off + 8 + 6, none⟩ = some (.slice A5 b.v.l.length c5) := hcell1' 6 _ rfl
  have mc7 : w.cell? ⟨ad.block, ad.off + 8 + 7, none⟩ = some (.slice A6 b.ar.length c6) := hcell1' 7 _ rfl
  have hposI : (0 : Int) < (e.ar.length : Nat) := by omega
  obtain ⟨t0, ht0⟩ : ∃ t, tx (parT (decide (rowN a < 5)) a.text) = t := ⟨_, rfl⟩
  obtain ⟨t1, ht1⟩ : ∃ t, tx (parT (decide (rowN b < 6)) b.text) = t := ⟨_, rfl⟩
  obtain ⟨tw, htw⟩ : ∃ t, tx (infixT e.op) = t := ⟨_, rfl⟩
  have hp0 := par_le (decide (rowN a < 5)) a.text
  have hp1 := par_le (decide (rowN b < 6)) b.text
  have hwl := infix_le e.op
  have s0 : t0.size ≤ 2000000000 := by rw [← ht0, tx_size]; omega
  have s1 : t1.size ≤ 2000000000 := by rw [← ht1, tx_size]; omega
  have sw : tw.size ≤ 3 := by rw [← htw, tx_size]; omega
  have HJ := Lib.hid (fun w' (hb : Below w.heap.size w w') cs' (hx' : ExAt w' B a cs') => inside_of a 5 hTa hz B cs' w' hx' (Nat.le_trans hB hb.size) (HTM.out w' hb).1 (HTM.out w' hb).2)
  have HK := Lib.hid (fun w' (hb : Below w.heap.size w w') cs' (hx' : ExAt w' B b cs') => inside_of b 6 hTb hz1 B cs' w' hx' (Nat.le_trans hB hb.size) (HTM.out w' hb).1 (HTM.out w' hb).2)
  simp only [ht0] at HJ
  simp only [ht1] at HK
  have HTW := Lib.hid htw
  have HR := Lib.hid (show tx R = t0 ++ ⟨#[32]⟩ ++ tw ++ ⟨#[32]⟩ ++ t1 by rw [hte, hg, hg1, ← ht0, ← ht1, ← htw, ← tx_cat, ← tx_cat, ← tx_cat, ← tx_cat]; rfl)
  clear hx hr hi htab hm hI h9 hj hla hR hte hcell0 hcell0' hxa hra hia hb0 hea z1 z2 z3 z4 P hP hk hpos ho hz hTa hg hal hTb hz1 hg1 ht0 ht1 htw hp0 hp1 hwl hcell1 hcell1' hxb hrb hib hb1 heb y1 y2 y3 y4
  show Calls Tryz.prog 26 #[.agg #[.int .i64 e.k, .int .i64 e.op, .string e.nm, .int .i64 e.v.k, .int .i64 e.v.n, .string e.v.s, .slice A1 e.v.l.length c1, .slice (some ad) e.ar.length c2]] w _
  change Hid (∀ w', Below w.heap.size w w' → ExAt w' B e [.int .i64 e.k, .int .i64 e.op, .string e.nm, .int .i64 e.v.k, .int .i64 e.v.n, .string e.v.s, .slice A1 e.v.l.length c1, .slice (some ad) e.ar.length c2]) at HXX
  rw [h2] at HXX hposI
  rw [h2]
  clear h2
  go_enter Tryz.func26, Tryz.ntmps26
  go_upto_region 1 with (fail)
  obtain ⟨W, hW⟩ : ∃ W, W = (w.alloc (.cells #[.int .i64 e.k, .int .i64 e.op, .string e.nm, .int .i64 e.v.k, .int .i64 e.v.n, .string e.v.s, .slice A1 e.v.l.length c1, .slice (some ad) 2 c2] 27 (0, 0))) := ⟨_, rfl⟩
  have hbw : Below w.heap.size w W := by rw [hW]; exact ((Below.refl _ w).alloc (Nat.le_refl _) _)
  have B0 : Blk W (w.heap.size) 27 #[.int .i64 e.k, .int .i64 e.op, .string e.nm, .int .i64 e.v.k, .int .i64 e.v.n, .string e.v.s, .slice A1 e.v.l.length c1, .slice (some ad) 2 c2] := by
    rw [hW]
    have := Blk.new w 27 #[.int .i64 e.k, .int .i64 e.op, .string e.nm, .int .i64 e.v.k, .int .i64 e.v.n, .string e.v.s, .slice A1 e.v.l.length c1, .slice (some ad) 2 c2]
    exact this
  have hsz : W.heap.size = w.heap.size + 1 := by rw [hW]; simp
  rw [← hW]
  have ec0 : W.cell? ⟨w.heap.size, 0, none⟩ = some (.int .i64 e.k) := B0.cell 0
  have ec1 : W.cell? ⟨w.heap.size, 1, none⟩ = some (.int .i64 e.op) := B0.cell 1
  have ec2 : W.cell? ⟨w.heap.size, 2, none⟩ = some (.string e.nm) := B0.cell 2
  have ec3 : W.cell? ⟨w.heap.size, 3, none⟩ = some (.int .i64 e.v.k) := B0.cell 3
  have ec4 : W.cell? ⟨w.heap.size, 4, none⟩ = some (.int .i64 e.v.n) := B0.cell 4
  have ec5 : W.cell? ⟨w.heap.size, 5, none⟩ = some (.string e.v.s) := B0.cell 5
  have ec6 : W.cell? ⟨w.heap.size, 6, none⟩ = some (.slice A1 e.v.l.length c1) := B0.cell 6
  have ec7 : W.cell? ⟨w.heap.size, 7, none⟩ = some (.slice (some ad) 2 c2) := B0.cell 7
  have gc0 : W.cell? ad = some (.int .i64 a.k) := Below.cell_of hbw fc0
  have gc1 : W.cell? ⟨ad.block, ad.off + 1, none⟩ = some (.int .i64 a.op) := Below.cell_of hbw fc1
  have gc2 : W.cell? ⟨ad.block, ad.off + 2, none⟩ = some (.string a.nm) := Below.cell_of hbw fc2
  have gc3 : W.cell? ⟨ad.block, ad.off + 3, none⟩ = some (.int .i64 a.v.k) := Below.cell_of hbw fc3
  have gc4 : W.cell? ⟨ad.block, ad.off + 4, none⟩ = some (.int .i64 a.v.n) := Below.cell_of hbw fc4
  have gc5 : W.cell? ⟨ad.block, ad.off + 5, none⟩ = some (.string a.v.s) := Below.cell_of hbw fc5
  have gc6 : W.cell? ⟨ad.block, ad.off + 6, none⟩ = some (.slice A3 a.v.l.length c3) := Below.cell_of hbw fc6
  have gc7 : W.cell? ⟨ad.block, ad.off + 7, none⟩ = some (.slice A4 a.ar.length c4) := Below.cell_of hbw fc7
  clear hW hsz fc0 fc1 fc2 fc3 fc4 fc5 fc6 fc7
  go_upto_region 12 with (fail)
  obtain ⟨W3, hW3⟩ : ∃ W3, W3 = W.alloc (.cells #[.int .i64 a.k, .int .i64 a.op, .string a.nm, .int .i64 a.v.k, .int .i64 a.v.n, .string a.v.s, .slice A3 a.v.l.length c3, .slice A4 a.ar.length c4] 27 (0, 0)) := ⟨_, rfl⟩
  have hb3 : Below W.heap.size W W3 := hW3 ▸ (Below.refl _ W).alloc (Nat.le_refl _) _
  have B3 : Blk W3 W.heap.size 27 #[.int .i64 a.k, .int .i64 a.op, .string a.nm, .int .i64 a.v.k, .int .i64 a.v.n, .string a.v.s, .slice A3 a.v.l.length c3, .slice A4 a.ar.length c4] := hW3 ▸ Blk.new W _ _
  rw [← hW3]
  have hbw3 := hbw.trans (hb3.mono hbw.size)
  have B0 := B0.below hb3 B0.lt
  have hc0 := Below.cell_of hb3 gc0
  have hc1 := Below.cell_of hb3 gc1
  have hc2 := Below.cell_of hb3 gc2
  have hc3 := Below.cell_of hb3 gc3
  have hc4 := Below.cell_of hb3 gc4
  have hc5 := Below.cell_of hb3 gc5
  have hc6 := Below.cell_of hb3 gc6
  have hc7 := Below.cell_of hb3 gc7
  clear hW3 ec0 ec1 ec2 ec3 ec4 ec5 ec6 ec7 gc0 gc1 gc2 gc3 gc4 gc5 gc6 gc7
  have ec0 : W3.cell? ⟨w.heap.size, 0, none⟩ = some (.int .i64 e.k) := B0.cell 0
  have ec1 : W3.cell? ⟨w.heap.size, 1, none⟩ = some (.int .i64 e.op) := B0.cell 1
  have ec2 : W3.cell? ⟨w.heap.size, 2, none⟩ = some (.string e.nm) := B0.cell 2
  have ec3 : W3.cell? ⟨w.heap.size, 3, none⟩ = some (.int .i64 e.v.k) := B0.cell 3
  have ec4 : W3.cell? ⟨w.heap.size, 4, none⟩ = some (.int .i64 e.v.n) := B0.cell 4
  have ec5 : W3.cell? ⟨w.heap.size, 5, none⟩ = some (.string e.v.s) := B0.cell 5
  have ec6 : W3.cell? ⟨w.heap.size, 6, none⟩ = some (.slice A1 e.v.l.length c1) := B0.cell 6
  have ec7 : W3.cell? ⟨w.heap.size, 7, none⟩ = some (.slice (some ad) 2 c2) := B0.cell 7
  go_wp2_with fail
  refine (rrow_any e B _ W3 (HXX.out W3 hbw3)).mono ?_
  rw [HRN.out]
  rintro en W1 ⟨rfl, hb1⟩
  have hbw1 := hbw3.trans (hb1.mono hbw3.size)
  have B0 := B0.below hb1 B0.lt
  have B3 := B3.below hb1 B3.lt
  have gc0 := Below.cell_of hb1 hc0
  have gc1 := Below.cell_of hb1 hc1
  have gc2 := Below.cell_of hb1 hc2
  have gc3 := Below.cell_of hb1 hc3
  have gc4 := Below.cell_of hb1 hc4
  have gc5 := Below.cell_of hb1 hc5
  have gc6 := Below.cell_of hb1 hc6
  have gc7 := Below.cell_of hb1 hc7
  clear ec0 ec1 ec2 ec3 ec4 ec5 ec6 ec7 hc0 hc1 hc2 hc3 hc4 hc5 hc6 hc7 hb1 hb3 hbw3
  have ec0 : W1.cell? ⟨w.heap.size, 0, none⟩ = some (.int .i64 e.k) := B0.cell 0
  have ec1 : W1.cell? ⟨w.heap.size, 1, none⟩ = some (.int .i64 e.op) := B0.cell 1
  have ec2 : W1.cell? ⟨w.heap.size, 2, none⟩ = some (.string e.nm) := B0.cell 2
  have ec3 : W1.cell? ⟨w.heap.size, 3, none⟩ = some (.int .i64 e.v.k) := B0.cell 3
  have ec4 : W1.cell? ⟨w.heap.size, 4, none⟩ = some (.int .i64 e.v.n) := B0.cell 4
  have ec5 : W1.cell? ⟨w.heap.size, 5, none⟩ = some (.string e.v.s) := B0.cell 5
  have ec6 : W1.cell? ⟨w.heap.size, 6, none⟩ = some (.slice A1 e.v.l.length c1) := B0.cell 6
  have ec7 : W1.cell? ⟨w.heap.size, 7, none⟩ = some (.slice (some ad) 2 c2) := B0.cell 7
  have kc0 : W1.cell? ⟨W.heap.size, 0, none⟩ = some (.int .i64 a.k) := B3.cell 0
  have kc1 : W1.cell? ⟨W.heap.size, 1, none⟩ = some (.int .i64 a.op) := B3.cell 1
  have kc2 : W1.cell? ⟨W.heap.size, 2, none⟩ = some (.string a.nm) := B3.cell 2
  have kc3 : W1.cell? ⟨W.heap.size, 3, none⟩ = some (.int .i64 a.v.k) := B3.cell 3
  have kc4 : W1.cell? ⟨W.heap.size, 4, none⟩ = some (.int .i64 a.v.n) := B3.cell 4
  have kc5 : W1.cell? ⟨W.heap.size, 5, none⟩ = some (.string a.v.s) := B3.cell 5
  have kc6 : W1.cell? ⟨W.heap.size, 6, none⟩ = some (.slice A3 a.v.l.length c3) := B3.cell 6
  have kc7 : W1.cell? ⟨W.heap.size, 7, none⟩ = some (.slice A4 a.ar.length c4) := B3.cell 7
  have k1 : ∀ w', Below W1.heap.size W1 w' → Calls Tryz.prog 67 #[.agg #[.int .i64 a.k, .int .i64 a.op, .string a.nm, .int .i64 a.v.k, .int .i64 a.v.n, .string a.v.s, .slice A3 a.v.l.length c3, .slice A4 a.ar.length c4], .int .i64 5] w' fun en w'' => en = .returned (.string t0) ∧ Below w'.heap.size w' w'' := fun w' hb => HJ.out w' (hbw1.trans (hb.mono hbw1.size)) _ (HCI.out.keep ((hbw1.trans (hb.mono hbw1.size)).mono hB))
  have k2 : ∀ w', Below W1.heap.size W1 w' → Calls Tryz.prog 67 #[.agg #[.int .i64 b.k, .int .i64 b.op, .string b.nm, .int .i64 b.v.k, .int .i64 b.v.n, .string b.v.s, .slice A5 b.v.l.length c5, .slice A6 b.ar.length c6], .int .i64 6] w' fun en w'' => en = .returned (.string t1) ∧ Below w'.heap.size w' w'' := fun w' hb => HK.out w' (hbw1.trans (hb.mono hbw1.size)) _ (HCB.out.keep ((hbw1.trans (hb.mono hbw1.size)).mono hB))
  have k3 : ∀ w', Below W1.heap.size W1 w' → Calls Tryz.prog 68 #[.int .i64 e.op] w' fun en w'' => en = .returned (.string tw) ∧ Below w'.heap.size w' w'' := fun w' hb => by have h := rinfix_any e.op w'; rwa [HTW.out] at h
  have K1 := Lib.hid (Later.call k1)
  have K2 := Lib.hid (Later.call k2)
  have K3 := Lib.hid (Later.call k3)
  have q0 := Later.cell ec1
  have q1 := Later.cell ec7
  have u0 := Later.cell kc0
  have v0 := Later.cell (Below.cell_of hbw1 mc0)
  have u1 := Later.cell kc1
  have v1 := Later.cell (Below.cell_of hbw1 mc1)
  have u2 := Later.cell kc2
  have v2 := Later.cell (Below.cell_of hbw1 mc2)
  have u3 := Later.cell kc3
  have v3 := Later.cell (Below.cell_of hbw1 mc3)
  have u4 := Later.cell kc4
  have v4 := Later.cell (Below.cell_of hbw1 mc4)
  have u5 := Later.cell kc5
  have v5 := Later.cell (Below.cell_of hbw1 mc5)
  have u6 := Later.cell kc6
  have v6 := Later.cell (Below.cell_of hbw1 mc6)
  have u7 := Later.cell kc7
  have v7 := Later.cell (Below.cell_of hbw1 mc7)
  clear k1 k2 k3 HJ HK HTW ec0 ec1 ec2 ec3 ec4 ec5 ec6 ec7 kc0 kc1 kc2 kc3 kc4 kc5 kc6 kc7 gc0 gc1 gc2 gc3 gc4 gc5 gc6 gc7 B0 B3 mc0 mc1 mc2 mc3 mc4 mc5 mc6 mc7
  go_upto_region 24 with (fail)
  refine wp_region_later (by kernel_rfl) (by kernel_rfl) ?_
  repeat (go_big_quiet_step (first | with_reducible exact K1.out _ | with_reducible exact K2.out _ | with_reducible exact K3.out _))
  refine wpQuiet_nil ?_
  intro W9 hw'
  have hb9 := later_h hw'
  clear hw'
  go_wp2_with fail
  go_ret
  exact ⟨by rw [HR.out]; try rfl, hbw1.trans (hb9.mono hbw1.size)⟩
set_option maxHeartbeats 4000000 in
set_option maxRecDepth 100000 in
theorem rtext_prod (e : Ex) (hk : e.k = 4) (ho : e.op = 17 ∨ e.op = 18 ∨ e.op = 19) (hI : ∀ a ∈ e.ar, RTextSpec 26 a) (h9 : ∀ a ∈ e.ar, a.text.length ≤ 1000000000) (hj : ∀ l, ((insL l e.ar).map List.length).sum + 98 * e.ar.length ≤ 999999000) (hla : e.ar.length ≤ 999999) (hP : partF e = 0) (B : Nat) (cs : List Value) (w : World) (hx : ExAt w B e cs) (hB : B ≤ w.heap.size) (htab : Tab w) (hm : MxS w) :
    Calls Tryz.prog 26 #[.agg cs.toArray] w fun en w' => en = .returned (.string (tx (e.text))) ∧ Below w.heap.size w w' := by
  have P := partOk hP
  have HX := Lib.hid hx
  obtain ⟨R, hR⟩ : ∃ R, e.text = R := ⟨_, rfl⟩
  rw [hR]
  have hte := hR.symm.trans (text_eq e)
  have HTM := Lib.hid (fun w' (hb : Below w.heap.size w w') => And.intro (tabIs_below htab hb) (hm.below hb))
  obtain ⟨hn, hs, hl, ha, hx, hr, hi⟩ := hx
  rename_i A1 c1 A2 c2 cs
  have HXX := Lib.hid (fun w' (hb : Below w.heap.size w w') => HX.out.keep (hb.mono hB))
  have hk1 : (e.k == 1) = false := by rw [hk]; rfl
  have hk2 : (e.k == 2) = false := by rw [hk]; rfl
  have hk3 : (e.k == 3) = false := by rw [hk]; rfl
  have hk5 : (e.k == 5) = false := by rw [hk]; rfl
  rw [if_neg (by omega), if_neg (by omega), if_neg (by omega), if_neg (by omega)] at hte
  rw [if_neg (by omega), if_neg (by omega), if_neg (by omega), if_neg (by omega), if_neg (by omega), if_pos ho] at hte
  have HRN := Lib.hid (show rowN e = 6 by unfold rowN; rw [if_neg (by omega), if_neg (by omega)]; rw [if_neg (by omega), if_neg (by omega), if_neg (by omega), if_neg (by omega), if_neg (by omega), if_pos ho])
  have hal := P.a4 hk
  have h2 : e.ar.length = 2 := by
    unfold arOf at hal
    rw [if_neg (by omega), if_neg (by omega), if_neg (by omega), if_pos (by omega)] at hal
    have h1 : (2 : Nat) ≤ e.ar.length := hal.1
    have h3 : e.ar.length ≤ (2 : Nat) := hal.2
    omega
  have hpos := ar_pos P hk
  obtain ⟨ad, ci0, rfl, hb0, hci0, hcell0⟩ := exs_at hr hi hpos
  have hz := h9 _ (List.getElem_mem hpos)
  have hTa := hI _ (List.getElem_mem hpos)
  obtain ⟨a, hea⟩ : ∃ a, e.ar[0] = a := ⟨_, rfl⟩
  have hg := ins_get 6 e.ar 0 hpos
  rw [hea] at hg
  rw [hea] at hci0 hz hTa
  have HCI := Lib.hid hci0
  obtain ⟨z1, z2, z3, z4, hxa, hra, hia⟩ := hci0
  rename_i A3 c3 A4 c4 cs3
  have hcell0' : ∀ j u, (exCells a A3 c3 A4 c4)[j]? = some u → w.cell? (ad.add j) = some u := fun j u hu => by have h := hcell0 j u hu; rwa [Nat.zero_mul, add_zero_ad] at h
  have fc0 : w.cell? (ad) = some (.int .i64 a.k) := hcell0' 0 _ rfl
  have fc1 : w.cell? ⟨(ad).block, (ad).off + 1, none⟩ = some (.int .i64 a.op) := hcell0' 1 _ rfl
  have fc2 : w.cell? ⟨(ad).block, (ad).off + 2, none⟩ = some (.string a.nm) := hcell0' 2 _ rfl
  have fc3 : w.cell? ⟨(ad).block, (ad).off + 3, none⟩ = some (.int .i64 a.v.k) := hcell0' 3 _ rfl
  have fc4 : w.cell? ⟨(ad).block, (ad).off + 4, none⟩ = some (.int .i64 a.v.n) := hcell0' 4 _ rfl
  have fc5 : w.cell? ⟨(ad).block, (ad).off + 5, none⟩ = some (.string a.v.s) := hcell0' 5 _ rfl
  have fc6 : w.cell? ⟨(ad).block, (ad).off + 6, none⟩ = some (.slice A3 a.v.l.length c3) := hcell0' 6 _ rfl
  have fc7 : w.cell? ⟨(ad).block, (ad).off + 7, none⟩ = some (.slice A4 a.ar.length c4) := hcell0' 7 _ rfl
  obtain ⟨ad', ci1, had, hb1, hci1, hcell1⟩ := exs_at hr hi (show 1 < e.ar.length by omega)
  injection had with had
  subst had
  have hg1 := ins_get 7 e.ar 1 (by omega)
  have hz1 := h9 _ (List.getElem_mem (show 1 < e.ar.length by omega))
  have hTb := hI _ (List.getElem_mem (show 1 < e.ar.length by omega))
  obtain ⟨b, heb⟩ : ∃ b, e.ar[1] = b := ⟨_, rfl⟩
  rw [heb] at hci1 hg1 hz1 hTb
  have HCB := Lib.hid hci1
  obtain ⟨y1, y2, y3, y4, hxb, hrb, hib⟩ := hci1
  rename_i A5 c5 A6 c6 cs4
  have hcell1' : ∀ j u, (exCells b A5 c5 A6 c6)[j]? = some u → w.cell? ((ad.add 8).add j) = some u := fun j u hu => by have h := hcell1 j u hu; rwa [Nat.one_mul] at h
  have mc0 : w.cell? ⟨ad.block, ad.off + 8, none⟩ = some (.int .i64 b.k) := hcell1' 0 _ rfl
  have mc1 : w.cell? ⟨ad.block, ad.off + 8 + 1, none⟩ = some (.int .i64 b.op) := hcell1' 1 _ rfl
  have mc2 : w.cell? ⟨ad.block, ad.off + 8 + 2, none⟩ = some (.string b.nm) := hcell1' 2 _ rfl
  have mc3 : w.cell? ⟨ad.block, ad.off + 8 + 3, none⟩ = some (.int .i64 b.v.k) := hcell1' 3 _ rfl
  have mc4 : w.cell? ⟨ad.block, ad.off + 8 + 4, none⟩ = some (.int .i64 b.v.n) := hcell1' 4 _ rfl
  have mc5 : w.cell? ⟨ad.block, ad.off + 8 + 5, none⟩ = some (.string b.v.s) := hcell1' 5 _ rfl
  have mc6 : w.cell? ⟨ad.block, ad.off + 8 + 6, none⟩ = some (.slice A5 b.v.l.length c5) := hcell1' 6 _ rfl
  have mc7 : w.cell? ⟨ad.block, ad.off + 8 + 7, none⟩ = some (.slice A6 b.ar.length c6) := hcell1' 7 _ rfl
  have hposI : (0 : Int) < (e.ar.length : Nat) := by omega
  obtain ⟨t0, ht0⟩ : ∃ t, tx (parT (decide (rowN a < 6)) a.text) = t := ⟨_, rfl⟩
  obtain ⟨t1, ht1⟩ : ∃ t, tx (parT (decide (rowN b < 7)) b.text) = t := ⟨_, rfl⟩
  obtain ⟨tw, htw⟩ : ∃ t, tx (infixT e.op) = t := ⟨_, rfl⟩
  have hp0 := par_le (decide (rowN a < 6)) a.text
  have hp1 := par_le (decide (rowN b < 7)) b.text
  have hwl := infix_le e.op
  have s0 : t0.size ≤ 2000000000 := by rw [← ht0, tx_size]; omega
  have s1 : t1.size ≤ 2000000000 := by rw [← ht1, tx_size]; omega
  have sw : tw.size ≤ 3 := by rw [← htw, tx_size]; omega
  have HJ := Lib.hid (fun w' (hb : Below w.heap.size w w') cs' (hx' : ExAt w' B a cs') => inside_of a 6 hTa hz B cs' w' hx' (Nat.le_trans hB hb.size) (HTM.out w' hb).1 (HTM.out w' hb).2)
  have HK := Lib.hid (fun w' (hb : Below w.heap.size w w') cs' (hx' : ExAt w' B b cs') => inside_of b 7 hTb hz1 B cs' w' hx' (Nat.le_trans hB hb.size) (HTM.out w' hb).1 (HTM.out w' hb).2)
  simp only [ht0] at HJ
  simp only [ht1] at HK
  have HTW := Lib.hid htw
  have HR := Lib.hid (show tx R = t0 ++ ⟨#[32]⟩ ++ tw ++ ⟨#[32]⟩ ++ t1 by rw [hte, hg, hg1, ← ht0, ← ht1, ← htw, ← tx_cat, ← tx_cat, ← tx_cat, ← tx_cat]; rfl)
  clear hx hr hi htab hm hI h9 hj hla hR hte hcell0 hcell0' hxa hra hia hb0 hea z1 z2 z3 z4 P hP hk hpos ho hz hTa hg hal hTb hz1 hg1 ht0 ht1 htw hp0 hp1 hwl hcell1 hcell1' hxb hrb hib hb1 heb y1 y2 y3 y4
  show Calls Tryz.prog 26 #[.agg #[.int .i64 e.k, .int .i64 e.op, .string e.nm, .int .i64 e.v.k, .int .i64 e.v.n, .string e.v.s, .slice A1 e.v.l.length c1, .slice (some ad) e.ar.length c2]] w _
  change Hid (∀ w', Below w.heap.size w w' → ExAt w' B e [.int .i64 e.k, .int .i64 e.op, .string e.nm, .int .i64 e.v.k, .int .i64 e.v.n, .string e.v.s, .slice A1 e.v.l.length c1, .slice (some ad) e.ar.length c2]) at HXX
  rw [h2] at HXX hposI
  rw [h2]
  clear h2
  go_enter Tryz.func26, Tryz.ntmps26
  go_upto_region 1 with (fail)
  obtain ⟨W, hW⟩ : ∃ W, W = (w.alloc (.cells #[.int .i64 e.k, .int .i64 e.op, .string e.nm, .int .i64 e.v.k, .int .i64 e.v.n, .string e.v.s, .slice A1 e.v.l.length c1, .slice (some ad) 2 c2] 27 (0, 0))) := ⟨_, rfl⟩
  have hbw : Below w.heap.size w W := by rw [hW]; exact ((Below.refl _ w).alloc (Nat.le_refl _) _)
  have B0 : Blk W (w.heap.size) 27 #[.int .i64 e.k, .int .i64 e.op, .string e.nm, .int .i64 e.v.k, .int .i64 e.v.n, .string e.v.s, .slice A1 e.v.l.length c1, .slice (some ad) 2 c2] := by
    rw [hW]
    have := Blk.new w 27 #[.int .i64 e.k, .int .i64 e.op, .string e.nm, .int .i64 e.v.k, .int .i64 e.v.n, .string e.v.s, .slice A1 e.v.l.length c1, .slice (some ad) 2 c2]
    exact this
  have hsz : W.heap.size = w.heap.size + 1 := by rw [hW]; simp
  rw [← hW]
  have ec0 : W.cell? ⟨w.heap.size, 0, none⟩ = some (.int .i64 e.k) := B0.cell 0
  have ec1 : W.cell? ⟨w.heap.size, 1, none⟩ = some (.int .i64 e.op) := B0.cell 1
  have ec2 : W.cell? ⟨w.heap.size, 2, none⟩ = some (.string e.nm) := B0.cell 2
  have ec3 : W.cell? ⟨w.heap.size, 3, none⟩ = some (.int .i64 e.v.k) := B0.cell 3
  have ec4 : W.cell? ⟨w.heap.size, 4, none⟩ = some (.int .i64 e.v.n) := B0.cell 4
  have ec5 : W.cell? ⟨w.heap.size, 5, none⟩ = some (.string e.v.s) := B0.cell 5
  have ec6 : W.cell? ⟨w.heap.size, 6, none⟩ = some (.slice A1 e.v.l.length c1) := B0.cell 6
  have ec7 : W.cell? ⟨w.heap.size, 7, none⟩ = some (.slice (some ad) 2 c2) := B0.cell 7
  have gc0 : W.cell? ad = some (.int .i64 a.k) := Below.cell_of hbw fc0
  have gc1 : W.cell? ⟨ad.block, ad.off + 1, none⟩ = some (.int .i64 a.op) := Below.cell_of hbw fc1
  have gc2 : W.cell? ⟨ad.block, ad.off + 2, none⟩ = some (.string a.nm) := Below.cell_of hbw fc2
  have gc3 : W.cell? ⟨ad.block, ad.off + 3, none⟩ = some (.int .i64 a.v.k) := Below.cell_of hbw fc3
  have gc4 : W.cell? ⟨ad.block, ad.off + 4, none⟩ = some (.int .i64 a.v.n) := Below.cell_of hbw fc4
  have gc5 : W.cell? ⟨ad.block, ad.off + 5, none⟩ = some (.string a.v.s) := Below.cell_of hbw fc5
  have gc6 : W.cell? ⟨ad.block, ad.off + 6, none⟩ = some (.slice A3 a.v.l.length c3) := Below.cell_of hbw fc6
  have gc7 : W.cell? ⟨ad.block, ad.off + 7, none⟩ = some (.slice A4 a.ar.length c4) := Below.cell_of hbw fc7
  clear hW hsz fc0 fc1 fc2 fc3 fc4 fc5 fc6 fc7
  go_upto_region 12 with (fail)
  obtain ⟨W3, hW3⟩ : ∃ W3, W3 = W.alloc (.cells #[.int .i64 a.k, .int .i64 a.op, .string a.nm, .int .i64 a.v.k, .int .i64 a.v.n, .string a.v.s, .slice A3 a.v.l.length c3, .slice A4 a.ar.length c4] 27 (0, 0)) := ⟨_, rfl⟩
  have hb3 : Below W.heap.size W W3 := hW3 ▸ (Below.refl _ W).alloc (Nat.le_refl _) _
  have B3 : Blk W3 W.heap.size 27 #[.int .i64 a.k, .int .i64 a.op, .string a.nm, .int .i64 a.v.k, .int .i64 a.v.n, .string a.v.s, .slice A3 a.v.l.length c3, .slice A4 a.ar.length c4] := hW3 ▸ Blk.new W _ _
  rw [← hW3]
  have hbw3 := hbw.trans (hb3.mono hbw.size)
  have B0 := B0.below hb3 B0.lt
  have hc0 := Below.cell_of hb3 gc0
  have hc1 := Below.cell_of hb3 gc1
  have hc2 := Below.cell_of hb3 gc2
  have hc3 := Below.cell_of hb3 gc3
  have hc4 := Below.cell_of hb3 gc4
  have hc5 := Below.cell_of hb3 gc5
  have hc6 := Below.cell_of hb3 gc6
  have hc7 := Below.cell_of hb3 gc7
  clear hW3 ec0 ec1 ec2 ec3 ec4 ec5 ec6 ec7 gc0 gc1 gc2 gc3 gc4 gc5 gc6 gc7
  have ec0 : W3.cell? ⟨w.heap.size, 0, none⟩ = some (.int .i64 e.k) := B0.cell 0
  have ec1 : W3.cell? ⟨w.heap.size, 1, none⟩ = some (.int .i64 e.op) := B0.cell 1
  have ec2 : W3.cell? ⟨w.heap.size, 2, none⟩ = some (.string e.nm) := B0.cell 2
  have ec3 : W3.cell? ⟨w.heap.size, 3, none⟩ = some (.int .i64 e.v.k) := B0.cell 3
  have ec4 : W3.cell? ⟨w.heap.size, 4, none⟩ = some (.int .i64 e.v.n) := B0.cell 4
  have ec5 : W3.cell? ⟨w.heap.size, 5, none⟩ = some (.string e.v.s) := B0.cell 5
  have ec6 : W3.cell? ⟨w.heap.size, 6, none⟩ = some (.slice A1 e.v.l.length c1) := B0.cell 6
  have ec7 : W3.cell? ⟨w.heap.size, 7, none⟩ = some (.slice (some ad) 2 c2) := B0.cell 7
  go_wp2_with fail
  refine (rrow_any e B _ W3 (HXX.out W3 hbw3)).mono ?_
  rw [HRN.out]
  rintro en W1 ⟨rfl, hb1⟩
  have hbw1 := hbw3.trans (hb1.mono hbw3.size)
  have B0 := B0.below hb1 B0.lt
  have B3 := B3.below hb1 B3.lt
  have gc0 := Below.cell_of hb1 hc0
  have gc1 := Below.cell_of hb1 hc1
  have gc2 := Below.cell_of hb1 hc2
  have gc3 := Below.cell_of hb1 hc3
  have gc4 := Below.cell_of hb1 hc4
  have gc5 := Below.cell_of hb1 hc5
  have gc6 := Below.cell_of hb1 hc6
  have gc7 := Below.cell_of hb1 hc7
  clear ec0 ec1 ec2 ec3 ec4 ec5 ec6 ec7 hc0 hc1 hc2 hc3 hc4 hc5 hc6 hc7 hb1 hb3 hbw3
  have ec0 : W1.cell? ⟨w.heap.size, 0, none⟩ = some (.int .i64 e.k) := B0.cell 0
  have ec1 : W1.cell? ⟨w.heap.size, 1, none⟩ = some (.int .i64 e.op) := B0.cell 1
  have ec2 : W1.cell? ⟨w.heap.size, 2, none⟩ = some (.string e.nm) := B0.cell 2
  have ec3 : W1.cell? ⟨w.heap.size, 3, none⟩ = some (.int .i64 e.v.k) := B0.cell 3
  have ec4 : W1.cell? ⟨w.heap.size, 4, none⟩ = some (.int .i64 e.v.n) := B0.cell 4
  have ec5 : W1.cell? ⟨w.heap.size, 5, none⟩ = some (.string e.v.s) := B0.cell 5
  have ec6 : W1.cell? ⟨w.heap.size, 6, none⟩ = some (.slice A1 e.v.l.length c1) := B0.cell 6
  have ec7 : W1.cell? ⟨w.heap.size, 7, none⟩ = some (.slice (some ad) 2 c2) := B0.cell 7
  have kc0 : W1.cell? ⟨W.heap.size, 0, none⟩ = some (.int .i64 a.k) := B3.cell 0
  have kc1 : W1.cell? ⟨W.heap.size, 1, none⟩ = some (.int .i64 a.op) := B3.cell 1
  have kc2 : W1.cell? ⟨W.heap.size, 2, none⟩ = some (.string a.nm) := B3.cell 2
  have kc3 : W1.cell? ⟨W.heap.size, 3, none⟩ = some (.int .i64 a.v.k) := B3.cell 3
  have kc4 : W1.cell? ⟨W.heap.size, 4, none⟩ = some (.int .i64 a.v.n) := B3.cell 4
  have kc5 : W1.cell? ⟨W.heap.size, 5, none⟩ = some (.string a.v.s) := B3.cell 5
  have kc6 : W1.cell? ⟨W.heap.size, 6, none⟩ = some (.slice A3 a.v.l.length c3) := B3.cell 6
  have kc7 : W1.cell? ⟨W.heap.size, 7, none⟩ = some (.slice A4 a.ar.length c4) := B3.cell 7
  have k1 : ∀ w', Below W1.heap.size W1 w' → Calls Tryz.prog 67 #[.agg #[.int .i64 a.k, .int .i64 a.op, .string a.nm, .int .i64 a.v.k, .int .i64 a.v.n, .string a.v.s, .slice A3 a.v.l.length c3, .slice A4 a.ar.length c4], .int .i64 6] w' fun en w'' => en = .returned (.string t0) ∧ Below w'.heap.size w' w'' := fun w' hb => HJ.out w' (hbw1.trans (hb.mono hbw1.size)) _ (HCI.out.keep ((hbw1.trans (hb.mono hbw1.size)).mono hB))
  have k2 : ∀ w', Below W1.heap.size W1 w' → Calls Tryz.prog 67 #[.agg #[.int .i64 b.k, .int .i64 b.op, .string b.nm, .int .i64 b.v.k, .int .i64 b.v.n, .string b.v.s, .slice A5 b.v.l.length c5, .slice A6 b.ar.length c6], .int .i64 7] w' fun en w'' => en = .returned (.string t1) ∧ Below w'.heap.size w' w'' := fun w' hb => HK.out w' (hbw1.trans (hb.mono hbw1.size)) _ (HCB.out.keep ((hbw1.trans (hb.mono hbw1.size)).mono hB))
  have k3 : ∀ w', Below W1.heap.size W1 w' → Calls Tryz.prog 68 #[.int .i64 e.op] w' fun en w'' => en = .returned (.string tw) ∧ Below w'.heap.size w' w'' := fun w' hb => by have h := rinfix_any e.op w'; rwa [HTW.out] at h
  have K1 := Lib.hid (Later.call k1)
  have K2 := Lib.hid (Later.call k2)
  have K3 := Lib.hid (Later.call k3)
  have q0 := Later.cell ec1
  have q1 := Later.cell ec7
  have u0 := Later.cell kc0
  have v0 := Later.cell (Below.cell_of hbw1 mc0)
  have u1 := Later.cell kc1
  have v1 := Later.cell (Below.cell_of hbw1 mc1)
  have u2 := Later.cell kc2
  have v2 := Later.cell (Below.cell_of hbw1 mc2)
  have u3 := Later.cell kc3
  have v3 := Later.cell (Below.cell_of hbw1 mc3)
  have u4 := Later.cell kc4
  have v4 := Later.cell (Below.cell_of hbw1 mc4)
  have u5 := Later.cell kc5
  have v5 := Later.cell (Below.cell_of hbw1 mc5)
  have u6 := Later.cell kc6
  have v6 := Later.cell (Below.cell_of hbw1 mc6)
  have u7 := Later.cell kc7
  have v7 := Later.cell (Below.cell_of hbw1 mc7)
  clear k1 k2 k3 HJ HK HTW ec0 ec1 ec2 ec3 ec4 ec5 ec6 ec7 kc0 kc1 kc2 kc3 kc4 kc5 kc6 kc7 gc0 gc1 gc2 gc3 gc4 gc5 gc6 gc7 B0 B3 mc0 mc1 mc2 mc3 mc4 mc5 mc6 mc7
  go_upto_region 24 with (fail)
  refine wp_region_later (by kernel_rfl) (by kernel_rfl) ?_
  repeat (go_big_quiet_step (first | with_reducible exact K1.out _ | with_reducible exact K2.out _ | with_reducible exact K3.out _))
  refine wpQuiet_nil ?_
  intro W9 hw'
  have hb9 := later_h hw'
  clear hw'
  go_wp2_with fail
  go_ret
  exact ⟨by rw [HR.out]; try rfl, hbw1.trans (hb9.mono hbw1.size)⟩
end Go.Proofs.YtcmccjcelchlhaaGreatDoor
