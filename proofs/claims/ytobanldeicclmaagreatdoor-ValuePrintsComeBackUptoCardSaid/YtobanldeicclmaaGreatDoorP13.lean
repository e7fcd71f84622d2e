/- The walks of binary, negated, text. · The walks of negated, overNames. · PLAIN and small walks: the tables of signs as the parser asks them, overOf, opOf. · PLAIN. What primary, call, loop and arguments ask of words. · The endings of the parser's methods; the walks of or, and. -/
import Derived.Test.YtobanldeicclmaaGreatDoorP12
import Derived.Deep.DrawnRows
import Derived.Deep.RegionHeld3
import Derived.Test.YtobanldeicclmaaGreatDoorP11
import Derived.Test.YtobanldeicclmaaGreatDoorP7
namespace Go.Proofs.YtobanldeicclmaaGreatDoor
open Go.RowKit
attribute [local go_sem ↓] Go.wp_at_zero Go.wp_at_succ
theorem later_h {W w' : World} (h : ∃ p : Later W, w' = p.w) : Below W.heap.size W w' := by
  obtain ⟨p, rfl⟩ := h
  exact p.h
theorem add_zero_ad (ad : Addr) : ad.add 0 = ad := by unfold Addr.add; simp
theorem ins_get (least : Int) (ar : List Ex) (i : Nat) (h : i < ar.length) : (insL least ar).getD i [] = parT (decide (rowN ar[i] < least)) ar[i].text := by
  rw [insL_map, List.getD_eq_getElem?_getD, List.getElem?_map, List.getElem?_eq_getElem h]; rfl
set_option maxHeartbeats 4000000 in
set_option maxRecDepth 100000 in
theorem binary_of (e : Ex) (left right : Int) (hT : ∀ a ∈ e.ar, TextSpec 10 a) (h9 : ∀ a ∈ e.ar, a.text.length ≤ 1000000000) (h2 : e.ar.length = 2) (B : Nat) (cs : List Value) (w : World) (hx : ExAt w B e cs) (hB : B ≤ w.heap.size) (htab : Tab w) (hm : Mx w) :
    Calls Tryz.prog 26 #[.agg cs.toArray, .int .i64 left, .int .i64 right] w fun en w' => en = .returned (.string (tx ((insL left e.ar).getD 0 [] ++ [32] ++ infixT e.op ++ [32] ++ (insL right e.ar).getD 1 []))) ∧ Below w.heap.size w w' := by
  obtain ⟨hn, hs, hl, ha, hx, hr, hi⟩ := hx
  rename_i A1 c1 A2 c2 cs
  obtain ⟨ad, ci0, rfl, hb0, hci0, hcell0⟩ := exs_at hr hi (show 0 < e.ar.length by omega)
  obtain ⟨ad', ci1, had, hb1, hci1, hcell1⟩ := exs_at hr hi (show 1 < e.ar.length by omega)
  injection had with had
  subst had
  have hg0 := ins_get left e.ar 0 (by omega)
  have hg1 := ins_get right e.ar 1 (by omega)
  have hW0 := fun w' cs' (hx' : ExAt w' B e.ar[0] cs') (hb : Below w.heap.size w w') => within_of e.ar[0] left (hT _ (List.getElem_mem _)) (h9 _ (List.getElem_mem _)) B cs' w' hx' (Nat.le_trans hB hb.size) (tabIs_below htab hb) (hm.below hb)
  have hW1 := fun w' cs' (hx' : ExAt w' B e.ar[1] cs') (hb : Below w.heap.size w w') => within_of e.ar[1] right (hT _ (List.getElem_mem _)) (h9 _ (List.getElem_mem _)) B cs' w' hx' (Nat.le_trans hB hb.size) (tabIs_below htab hb) (hm.below hb)
  have hz0 := h9 _ (List.getElem_mem (show 0 < e.ar.length by omega))
  have hz1 := h9 _ (List.getElem_mem (show 1 < e.ar.length by omega))
  obtain ⟨a, hea⟩ : ∃ a, e.ar[0] = a := ⟨_, rfl⟩
  obtain ⟨b, heb⟩ : ∃ b, e.ar[1] = b := ⟨_, rfl⟩
  rw [hea] at hci0 hg0 hz0
  rw [heb] at hci1 hg1 hz1
  simp only [hea] at hW0
  simp only [heb] at hW1
  have hp0 := par_le (decide (rowN a < left)) a.text
  have hp1 := par_le (decide (rowN b < right)) b.text
  have hwl := infix_le e.op
  obtain ⟨t0, ht0⟩ : ∃ t, tx (parT (decide (rowN a < left)) a.text) = t := ⟨_, rfl⟩
  obtain ⟨t1, ht1⟩ : ∃ t, tx (parT (decide (rowN b < right)) b.text) = t := ⟨_, rfl⟩
  obtain ⟨tw, htw⟩ : ∃ t, tx (infixT e.op) = t := ⟨_, rfl⟩
  have s0 : t0.size ≤ 2000000000 := by rw [← ht0, tx_size]; omega
  have s1 : t1.size ≤ 2000000000 := by rw [← ht1, tx_size]; omega
  have sw : tw.size ≤ 3 := by rw [← htw, tx_size]; omega
  have HV := Lib.hid (show tx ((insL left e.ar).getD 0 [] ++ [32] ++ infixT e.op ++ [32] ++ (insL right e.ar).getD 1 []) = t0 ++ ⟨#[32]⟩ ++ tw ++ ⟨#[32]⟩ ++ t1 by
    rw [hg0, hg1, ← ht0, ← ht1, ← htw, ← tx_cat, ← tx_cat, ← tx_cat, ← tx_cat]; rfl)
  rw [ht0] at hW0
  rw [ht1] at hW1
  have HCI0 := Lib.hid hci0
  have HCI1 := Lib.hid hci1
  obtain ⟨z1, z2, z3, z4, hxa, hra, hia⟩ := hci0
  rename_i A3 c3 A4 c4 cs3
  obtain ⟨y1, y2, y3, y4, hxb, hrb, hib⟩ := hci1
  rename_i A5 c5 A6 c6 cs4
  have hcell0' : ∀ j u, (exCells a A3 c3 A4 c4)[j]? = some u → w.cell? (ad.add j) = some u := fun j u hu => by have h := hcell0 j u hu; rwa [Nat.zero_mul, add_zero_ad] at h
  have hcell1' : ∀ j u, (exCells b A5 c5 A6 c6)[j]? = some u → w.cell? ((ad.add 8).add j) = some u := fun j u hu => by have h := hcell1 j u hu; rwa [Nat.one_mul] at h
  have fc0 : w.cell? (ad) = some (.int .i64 a.k) := hcell0' 0 _ rfl
  have fc1 : w.cell? ⟨(ad).block, (ad).off + 1, none⟩ = some (.int .i64 a.op) := hcell0' 1 _ rfl
  have fc2 : w.cell? ⟨(ad).block, (ad).off + 2, none⟩ = some (.string a.nm) := hcell0' 2 _ rfl
  have fc3 : w.cell? ⟨(ad).block, (ad).off + 3, none⟩ = some (.int .i64 a.v.k) := hcell0' 3 _ rfl
  have fc4 : w.cell? ⟨(ad).block, (ad).off + 4, none⟩ = some (.int .i64 a.v.n) := hcell0' 4 _ rfl
  have fc5 : w.cell? ⟨(ad).block, (ad).off + 5, none⟩ = some (.string a.v.s) := hcell0' 5 _ rfl
  have fc6 : w.cell? ⟨(ad).block, (ad).off + 6, none⟩ = some (.slice A3 a.v.l.length c3) := hcell0' 6 _ rfl
  have fc7 : w.cell? ⟨(ad).block, (ad).off + 7, none⟩ = some (.slice A4 a.ar.length c4) := hcell0' 7 _ rfl
  have gc0 : w.cell? ⟨ad.block, ad.off + 8, none⟩ = some (.int .i64 b.k) := hcell1' 0 _ rfl
  have gc1 : w.cell? ⟨ad.block, ad.off + 8 + 1, none⟩ = some (.int .i64 b.op) := hcell1' 1 _ rfl
  have gc2 : w.cell? ⟨ad.block, ad.off + 8 + 2, none⟩ = some (.string b.nm) := hcell1' 2 _ rfl
  have gc3 : w.cell? ⟨ad.block, ad.off + 8 + 3, none⟩ = some (.int .i64 b.v.k) := hcell1' 3 _ rfl
  have gc4 : w.cell? ⟨ad.block, ad.off + 8 + 4, none⟩ = some (.int .i64 b.v.n) := hcell1' 4 _ rfl
  have gc5 : w.cell? ⟨ad.block, ad.off + 8 + 5, none⟩ = some (.string b.v.s) := hcell1' 5 _ rfl
  have gc6 : w.cell? ⟨ad.block, ad.off + 8 + 6, none⟩ = some (.slice A5 b.v.l.length c5) := hcell1' 6 _ rfl
  have gc7 : w.cell? ⟨ad.block, ad.off + 8 + 7, none⟩ = some (.slice A6 b.ar.length c6) := hcell1' 7 _ rfl
  have HH2 := Lib.hid h2
  clear hx hr hi hT h9 htab hm hcell0 hcell1 hcell0' hcell1' hxa hra hia hxb hrb hib hg0 hg1 hea heb ht0 ht1 hz0 hz1 hp0 hp1 hb0 hb1 hwl z1 z2 z3 z4 y1 y2 y3 y4
  show Calls Tryz.prog 26 #[.agg #[.int .i64 e.k, .int .i64 e.op, .string e.nm, .int .i64 e.v.k, .int .i64 e.v.n, .string e.v.s, .slice A1 e.v.l.length c1, .slice (some ad) e.ar.length c2], .int .i64 left, .int .i64 right] w _
  rw [h2]
  clear h2
  go_enter Tryz.func26, Tryz.ntmps26
  go_upto_region 1 with (fail)
  obtain ⟨W, hW⟩ : ∃ W, W = (w.alloc (.cells #[.int .i64 e.k, .int .i64 e.op, .string e.nm, .int .i64 e.v.k, .int .i64 e.v.n, .string e.v.s, .slice A1 e.v.l.length c1, .slice (some ad) 2 c2] 27 (0, 0))) := ⟨_, rfl⟩
  have hbw : Below w.heap.size w W := by rw [hW]; exact ((Below.refl _ w).alloc (Nat.le_refl _) _)
  have B0 : Blk W (w.heap.size) 27 #[.int .i64 e.k, .int .i64 e.op, .string e.nm, .int .i64 e.v.k, .int .i64 e.v.n, .string e.v.s, .slice A1 e.v.l.length c1, .slice (some ad) 2 c2] := by
    rw [hW]
    have := Blk.new w 27 #[.int .i64 e.k, .int .i64 e.op, .string e.nm, .int .i64 e.v.k, .int .i64 e.v.n, .string e.v.s, .slice A1 e.v.l.length c1, .slice (some ad) 2 c2]
    exact this
  have hsz : W.heap.size = w.heap.size + 1 := by rw [hW]; simp
  rw [← hW]
  have k1 : ∀ w', Below W.heap.size W w' → Calls Tryz.prog 25 #[.agg #[.int .i64 a.k, .int .i64 a.op, .string a.nm, .int .i64 a.v.k, .int .i64 a.v.n, .string a.v.s, .slice A3 a.v.l.length c3, .slice A4 a.ar.length c4], .int .i64 left] w' fun en w'' => en = .returned (.string t0) ∧ Below w'.heap.size w' w'' := fun w' hb => hW0 w' _ (HCI0.out.keep ((hbw.trans (hb.mono hbw.size)).mono hB)) (hbw.trans (hb.mono hbw.size))
  have k2 : ∀ w', Below W.heap.size W w' → Calls Tryz.prog 25 #[.agg #[.int .i64 b.k, .int .i64 b.op, .string b.nm, .int .i64 b.v.k, .int .i64 b.v.n, .string b.v.s, .slice A5 b.v.l.length c5, .slice A6 b.ar.length c6], .int .i64 right] w' fun en w'' => en = .returned (.string t1) ∧ Below w'.heap.size w' w'' := fun w' hb => hW1 w' _ (HCI1.out.keep ((hbw.trans (hb.mono hbw.size)).mono hB)) (hbw.trans (hb.mono hbw.size))
  have k3 : ∀ w', Below W.heap.size W w' → Calls Tryz.prog 50 #[.int .i64 e.op] w' fun en w'' => en = .returned (.string tw) ∧ Below w'.heap.size w' w'' := fun w' hb => by have h := wordOf_any e.op w'; rwa [htw] at h
  have K1 := Lib.hid (Later.call k1)
  have K2 := Lib.hid (Later.call k2)
  have K3 := Lib.hid (Later.call k3)
  have q0 := Later.cell (show W.cell? ⟨w.heap.size, 1, none⟩ = some (.int .i64 e.op) from B0.cell 1)
  have q1 := Later.cell (show W.cell? ⟨w.heap.size, 7, none⟩ = some (.slice (some ad) 2 c2) from B0.cell 7)
  have u0 := Later.cell (Below.cell_of hbw fc0)
  have v0 := Later.cell (Below.cell_of hbw gc0)
  have u1 := Later.cell (Below.cell_of hbw fc1)
  have v1 := Later.cell (Below.cell_of hbw gc1)
  have u2 := Later.cell (Below.cell_of hbw fc2)
  have v2 := Later.cell (Below.cell_of hbw gc2)
  have u3 := Later.cell (Below.cell_of hbw fc3)
  have v3 := Later.cell (Below.cell_of hbw gc3)
  have u4 := Later.cell (Below.cell_of hbw fc4)
  have v4 := Later.cell (Below.cell_of hbw gc4)
  have u5 := Later.cell (Below.cell_of hbw fc5)
  have v5 := Later.cell (Below.cell_of hbw gc5)
  have u6 := Later.cell (Below.cell_of hbw fc6)
  have v6 := Later.cell (Below.cell_of hbw gc6)
  have u7 := Later.cell (Below.cell_of hbw fc7)
  have v7 := Later.cell (Below.cell_of hbw gc7)
  clear k1 k2 k3 hW0 hW1 hW hsz htw B0 fc0 gc0 fc1 gc1 fc2 gc2 fc3 gc3 fc4 gc4 fc5 gc5 fc6 gc6 fc7 gc7
  refine wp_region_later (by kernel_rfl) (by kernel_rfl) ?_
  repeat (go_big_quiet_step (first | with_reducible exact K1.out _ | with_reducible exact K2.out _ | with_reducible exact K3.out _))
  refine wpQuiet_nil ?_
  intro W9 hw'
  have hb9 := later_h hw'
  clear hw'
  go_wp2_with fail
  go_ret
  exact ⟨by rw [HV.out]; try rfl, hbw.trans (hb9.mono hbw.size)⟩
end Go.Proofs.YtobanldeicclmaaGreatDoor
namespace Go.Proofs.YtobanldeicclmaaGreatDoor
open Go.RowKit
attribute [local go_sem ↓] Go.wp_at_zero Go.wp_at_succ
set_option maxHeartbeats 2000000 in
set_option maxRecDepth 100000 in
theorem negated_of (a : Ex) (hT : TextSpec 10 a) (h9 : a.text.length ≤ 1000000000) (B : Nat) (cs : List Value) (w : World) (hx : ExAt w B a cs) (hB : B ≤ w.heap.size) (htab : Tab w) (hm : Mx w) :
    Calls Tryz.prog 27 #[.agg cs.toArray] w fun en w' => en = .returned (.string (tx ((if a.k = 1 ∧ a.v.k = 2 ∧ 0 ≤ a.v.n then [45, 40] ++ a.text ++ [41] else [45] ++ parT (decide (rowN a < 7)) a.text)))) ∧ Below w.heap.size w w' := by
  have HX := Lib.hid hx
  obtain ⟨R, hR⟩ : ∃ R, (if a.k = 1 ∧ a.v.k = 2 ∧ 0 ≤ a.v.n then [45, 40] ++ a.text ++ [41] else [45] ++ parT (decide (rowN a < 7)) a.text) = R := ⟨_, rfl⟩
  have HR := Lib.hid hR
  rw [hR]
  clear hR
  obtain ⟨t, htt⟩ : ∃ t, tx a.text = t := ⟨_, rfl⟩
  obtain ⟨tp, htp⟩ : ∃ t, tx (parT (decide (rowN a < 7)) a.text) = t := ⟨_, rfl⟩
  have hpl := par_le (decide (rowN a < 7)) a.text
  have st : t.size ≤ 2000000000 := by rw [← htt, tx_size]; omega
  have sp : tp.size ≤ 2000000000 := by rw [← htp, tx_size]; omega
  have HT := Lib.hid (fun w' (hb : Below w.heap.size w w') cs' (hx' : ExAt w' B a cs') => hT B cs' w' hx' (Nat.le_trans hB hb.size) (tabIs_below htab hb) (hm.below hb))
  have HW := Lib.hid (fun w' (hb : Below w.heap.size w w') cs' (hx' : ExAt w' B a cs') => within_of a 7 hT h9 B cs' w' hx' (Nat.le_trans hB hb.size) (tabIs_below htab hb) (hm.below hb))
  simp only [htt] at HT
  simp only [htp] at HW
  obtain ⟨hn, hs, hl, ha, hx, hr, hi⟩ := hx
  rename_i A1 c1 A2 c2 cs
  have HXX := Lib.hid (fun w' (hb : Below w.heap.size w w') => HX.out.keep (hb.mono hB))
  clear hx hr hi hT htab hm hpl
  show Calls Tryz.prog 27 #[.agg #[.int .i64 a.k, .int .i64 a.op, .string a.nm, .int .i64 a.v.k, .int .i64 a.v.n, .string a.v.s, .slice A1 a.v.l.length c1, .slice A2 a.ar.length c2]] w _
  go_enter Tryz.func27, Tryz.ntmps27
  go_upto_region 1 with (fail)
  obtain ⟨W, hW⟩ : ∃ W, W = (w.alloc (.cells #[.int .i64 a.k, .int .i64 a.op, .string a.nm, .int .i64 a.v.k, .int .i64 a.v.n, .string a.v.s, .slice A1 a.v.l.length c1, .slice A2 a.ar.length c2] 27 (0, 0))) := ⟨_, rfl⟩
  have hbw : Below w.heap.size w W := by rw [hW]; exact ((Below.refl _ w).alloc (Nat.le_refl _) _)
  have B0 : Blk W (w.heap.size) 27 #[.int .i64 a.k, .int .i64 a.op, .string a.nm, .int .i64 a.v.k, .int .i64 a.v.n, .string a.v.s, .slice A1 a.v.l.length c1, .slice A2 a.ar.length c2] := by
    rw [hW]
    have := Blk.new w 27 #[.int .i64 a.k, .int .i64 a.op, .string a.nm, .int .i64 a.v.k, .int .i64 a.v.n, .string a.v.s, .slice A1 a.v.l.length c1, .slice A2 a.ar.length c2]
    exact this
  have hsz : W.heap.size = w.heap.size + 1 := by rw [hW]; simp
  rw [← hW]
  have ec0 : W.cell? ⟨w.heap.size, 0, none⟩ = some (.int .i64 a.k) := B0.cell 0
  have ec1 : W.cell? ⟨w.heap.size, 1, none⟩ = some (.int .i64 a.op) := B0.cell 1
  have ec2 : W.cell? ⟨w.heap.size, 2, none⟩ = some (.string a.nm) := B0.cell 2
  have ec3 : W.cell? ⟨w.heap.size, 3, none⟩ = some (.int .i64 a.v.k) := B0.cell 3
  have ec4 : W.cell? ⟨w.heap.size, 4, none⟩ = some (.int .i64 a.v.n) := B0.cell 4
  have ec5 : W.cell? ⟨w.heap.size, 5, none⟩ = some (.string a.v.s) := B0.cell 5
  have ec6 : W.cell? ⟨w.heap.size, 6, none⟩ = some (.slice A1 a.v.l.length c1) := B0.cell 6
  have ec7 : W.cell? ⟨w.heap.size, 7, none⟩ = some (.slice A2 a.ar.length c2) := B0.cell 7
  clear hW hsz B0
  by_cases d1 : a.k = 1
  · have b1 : (a.k == 1) = true := by simp [d1]
    by_cases d2 : a.v.k = 2
    · have b2 : (a.v.k == 2) = true := by simp [d2]
      by_cases d3 : 0 ≤ a.v.n
      · have HV := Lib.hid (show tx R = ⟨#[45, 40]⟩ ++ t ++ ⟨#[41]⟩ by rw [← HR.out, if_pos ⟨d1, d2, d3⟩, ← htt, ← tx_cat, ← tx_cat]; rfl)
        clear htt d1 d2
        go_wp2_with fail
        refine (HT.out W hbw _ (HXX.out W hbw)).mono ?_
        rintro en W2 ⟨rfl, hb2⟩
        clear ec0 ec1 ec2 ec3 ec4 ec5 ec6 ec7
        go_wp2_with fail
        go_ret
        exact ⟨by rw [HV.out]; try rfl, hbw.trans (hb2.mono hbw.size)⟩
      · have HV := Lib.hid (show tx R = ⟨#[45]⟩ ++ tp by rw [← HR.out, if_neg (fun h => d3 h.2.2), ← htp, ← tx_cat]; rfl)
        clear htp d1 d2
        go_wp2_with fail
        refine (HW.out W hbw _ (HXX.out W hbw)).mono ?_
        rintro en W2 ⟨rfl, hb2⟩
        clear ec0 ec1 ec2 ec3 ec4 ec5 ec6 ec7
        go_wp2_with fail
        go_ret
        exact ⟨by rw [HV.out]; try rfl, hbw.trans (hb2.mono hbw.size)⟩
    · have b2 : (a.v.k == 2) = false := by simp [d2]
      have HV := Lib.hid (show tx R = ⟨#[45]⟩ ++ tp by rw [← HR.out, if_neg (fun h => d2 h.2.1), ← htp, ← tx_cat]; rfl)
      clear htp d1 d2
      go_wp2_with fail
      refine (HW.out W hbw _ (HXX.out W hbw)).mono ?_
      rintro en W2 ⟨rfl, hb2⟩
      clear ec0 ec1 ec2 ec3 ec4 ec5 ec6 ec7
      go_wp2_with fail
      go_ret
      exact ⟨by rw [HV.out]; try rfl, hbw.trans (hb2.mono hbw.size)⟩
  · have b1 : (a.k == 1) = false := by simp [d1]
    have HV := Lib.hid (show tx R = ⟨#[45]⟩ ++ tp by rw [← HR.out, if_neg (fun h => d1 h.1), ← htp, ← tx_cat]; rfl)
    clear htp d1
    go_wp2_with fail
    refine (HW.out W hbw _ (HXX.out W hbw)).mono ?_
    rintro en W2 ⟨rfl, hb2⟩
    clear ec0 ec1 ec2 ec3 ec4 ec5 ec6 ec7
    go_wp2_with fail
    go_ret
    exact ⟨by rw [HV.out]; try rfl, hbw.trans (hb2.mono hbw.size)⟩
def oversS : List ByteArray := oversL.map tx
set_option maxHeartbeats 1000000 in
theorem overNames_any (w : World) : Calls Tryz.prog 22 #[] w fun e w' => ∃ ad, e = .returned (.slice (some ad) 7 7) ∧ StrsAt w' w'.heap.size (some ad) oversS ∧ Below w.heap.size w w' := by
  go_enter Tryz.func22, Tryz.ntmps22
  go_wp2_with fail
  go_ret
  refine ⟨_, rfl, ⟨rfl, fun _ => ⟨_, rfl, by simp, fun j u hu => ?_⟩⟩, (Below.refl _ w).alloc (Nat.le_refl _) _⟩
  have e : (⟨w.heap.size, 0, none⟩ : Addr).add j = ⟨w.heap.size, j, none⟩ := by unfold Addr.add; split <;> simp_all
  rw [e, (Blk.new w 9 #[.string ⟨#[]⟩, .string ⟨#[115, 117, 109]⟩, .string ⟨#[99, 111, 117, 110, 116]⟩, .string ⟨#[97, 110, 121]⟩, .string ⟨#[97, 108, 108]⟩, .string ⟨#[108, 101, 97, 115, 116]⟩, .string ⟨#[109, 111, 115, 116]⟩]).cell j]
  rw [← hu]
  have e2 : (strV oversS).toArray = #[.string ⟨#[]⟩, .string ⟨#[115, 117, 109]⟩, .string ⟨#[99, 111, 117, 110, 116]⟩, .string ⟨#[97, 110, 121]⟩, .string ⟨#[97, 108, 108]⟩, .string ⟨#[108, 101, 97, 115, 116]⟩, .string ⟨#[109, 111, 115, 116]⟩] := by kernel_rfl
  rw [← e2]; simp
end Go.Proofs.YtobanldeicclmaaGreatDoor
namespace Go.Proofs.YtobanldeicclmaaGreatDoor
open Go.RowKit Vtx
/-- the operation of the last sign that fits -/
def lastOp (l : List Tok) (sg : List (ByteArray × Int)) : Int := sg.foldl (fun o d => if isW l d.1.data.toList then d.2 else o) 0
theorem last_snoc (l : List Tok) (a : List (ByteArray × Int)) (d : ByteArray × Int) : lastOp l (a ++ [d]) = if isW l d.1.data.toList then d.2 else lastOp l a := by simp [lastOp, List.foldl_append]
def isT (b : Bool) (x w : List UInt8) : Bool := !b && decide (x = w)
def sgnT (b : Bool) (x : List UInt8) (a c : Int) : Int := if isT b x [] then 0 else match ([4, 5, 6, 7, 8, 9, 10, 11, 15, 16, 17, 18, 19] : List Int).find? (fun o => decide (a ≤ o) && decide (o ≤ c) && decide (infixT o ≠ []) && isT b x (infixT o)) with
  | some o => o
  | none => 0
def lstT (b : Bool) (x : List UInt8) (sg : List (ByteArray × Int)) : Int := sg.foldl (fun o d => if isT b x d.1.data.toList then d.2 else o) 0
theorem sign_tok (a c : Int) (t : Tok) (r : List Tok) : signOf a c (t :: r) = sgnT t.touch t.tx a c := rfl
theorem last_tok (t : Tok) (r : List Tok) (sg : List (ByteArray × Int)) : lastOp (t :: r) sg = lstT t.touch t.tx sg := rfl
theorem sgn_true (x : List UInt8) (a c : Int) : sgnT true x a c = 0 := by
  unfold sgnT
  rw [if_neg (by simp [isT]), List.find?_eq_none.2 (fun o _ => by simp [isT])]
theorem lst_sums (b : Bool) (x : List UInt8) : lstT b x sumsL = sgnT b x 15 16 := by
  cases b
  · by_cases h1 : x = [43]
    · subst h1; decide
    · by_cases h2 : x = [45]
      · subst h2; decide
      · simp [lstT, sgnT, isT, sumsL, infixT, h1, h2]
  · rw [sgn_true]; simp [lstT, isT, sumsL]
theorem lst_prod (b : Bool) (x : List UInt8) : lstT b x prodL = sgnT b x 17 19 := by
  cases b
  · by_cases h1 : x = [42]
    · subst h1; decide
    · by_cases h2 : x = [47]
      · subst h2; decide
      · by_cases h3 : x = [109, 111, 100]
        · subst h3; decide
        · simp [lstT, sgnT, isT, prodL, infixT, h1, h2, h3]
  · rw [sgn_true]; simp [lstT, isT, prodL]
theorem last_sums (l : List Tok) : lastOp l sumsL = signOf 15 16 l := by
  cases l with
  | nil => rfl
  | cons t r => rw [last_tok, sign_tok, lst_sums]
theorem last_prod (l : List Tok) : lastOp l prodL = signOf 17 19 l := by
  cases l with
  | nil => rfl
  | cons t r => rw [last_tok, sign_tok, lst_prod]
/-- the first sign that fits -/
theorem comp_found {l : List Tok} {k : Nat} (hk : k < compL.length) (hno : ∀ d ∈ compL.take k, isW l d.1.data.toList = false) (hy : isW l compL[k].1.data.toList = true) : signOf 4 11 l = compL[k].2 := by
  cases l with
  | nil => cases hy
  | cons t r =>
    rw [sign_tok]
    have hy : isT t.touch t.tx compL[k].1.data.toList = true := hy
    unfold isT at hy
    rw [Bool.and_eq_true, decide_eq_true_iff] at hy
    obtain ⟨hy1, hy2⟩ := hy
    have hk8 : k < 8 := hk
    have ht : t.touch = false := by simpa using hy1
    clear hno hy1
    rw [ht, hy2]
    clear ht hy2 hy
    obtain rfl | rfl | rfl | rfl | rfl | rfl | rfl | rfl : k = 0 ∨ k = 1 ∨ k = 2 ∨ k = 3 ∨ k = 4 ∨ k = 5 ∨ k = 6 ∨ k = 7 := by omega
    all_goals decide +revert
theorem comp_none {l : List Tok} (hno : ∀ d ∈ compL, isW l d.1.data.toList = false) : signOf 4 11 l = 0 := by
  cases l with
  | nil => rfl
  | cons t r =>
    rw [sign_tok]
    have hno : ∀ d ∈ compL, isT t.touch t.tx d.1.data.toList = false := hno
    obtain ⟨b, hb⟩ : ∃ b, t.touch = b := ⟨_, rfl⟩
    obtain ⟨x, hx⟩ : ∃ x, t.tx = x := ⟨_, rfl⟩
    rw [hb, hx] at hno ⊢
    cases b
    · simp only [compL, List.forall_mem_cons, isT, Bool.not_false, Bool.true_and, decide_eq_false_iff_not] at hno
      obtain ⟨h1, h2, h3, h4, h5, h6, h7, h8, -⟩ := hno
      simp [sgnT, isT, infixT, h1, h2, h3, h4, h5, h6, h7, h8]
    · exact sgn_true _ _ _
theorem sumsB_any (w : World) : Calls Tryz.prog 76 #[] w fun e w' => e = .returned (.slice (some ⟨w.heap.size, 0, none⟩) sumsL.length sumsL.length) ∧ Blk w' w.heap.size 83 (flatS sumsL).toArray ∧ Below w.heap.size w w' := by
  go_enter Tryz.func76, Tryz.ntmps76
  go_wp2_with fail
  go_ret
  have e : (flatS sumsL).toArray = #[.string ⟨#[43]⟩, .int .i64 15, .string ⟨#[45]⟩, .int .i64 16] := by kernel_rfl
  exact ⟨rfl, by rw [e]; exact Blk.new w 83 #[.string ⟨#[43]⟩, .int .i64 15, .string ⟨#[45]⟩, .int .i64 16], (Below.refl _ w).alloc (Nat.le_refl _) _⟩
theorem prodB_any (w : World) : Calls Tryz.prog 77 #[] w fun e w' => e = .returned (.slice (some ⟨w.heap.size, 0, none⟩) prodL.length prodL.length) ∧ Blk w' w.heap.size 83 (flatS prodL).toArray ∧ Below w.heap.size w w' := by
  go_enter Tryz.func77, Tryz.ntmps77
  go_wp2_with fail
  go_ret
  have e : (flatS prodL).toArray = #[.string ⟨#[42]⟩, .int .i64 17, .string ⟨#[47]⟩, .int .i64 18, .string ⟨#[109, 111, 100]⟩, .int .i64 19] := by kernel_rfl
  exact ⟨rfl, by rw [e]; exact Blk.new w 83 #[.string ⟨#[42]⟩, .int .i64 17, .string ⟨#[47]⟩, .int .i64 18, .string ⟨#[109, 111, 100]⟩, .int .i64 19], (Below.refl _ w).alloc (Nat.le_refl _) _⟩
theorem funs_lists : funcsL = funsL.map (fun d => (d.2, d.1.data.toList)) := by decide
theorem opOf_found {w : List UInt8} {k : Nat} (hk : k < funsL.length) (hno : ∀ d ∈ funsL.take k, d.1.data.toList ≠ w) (hy : funsL[k].1.data.toList = w) : opOf w = funsL[k].2 := by
  unfold opOf
  have h : funcsL.find? (fun p => decide (p.2 = w)) = some (funsL[k].2, funsL[k].1.data.toList) := by
    rw [funs_lists, List.find?_eq_some_iff_append]
    refine ⟨by simpa using hy, (funsL.take k).map (fun d => (d.2, d.1.data.toList)), (funsL.drop (k + 1)).map (fun d => (d.2, d.1.data.toList)), ?_, ?_⟩
    · rw [show ((funsL[k].2, funsL[k].1.data.toList) :: (funsL.drop (k + 1)).map (fun d => (d.2, d.1.data.toList))) = (funsL[k] :: funsL.drop (k + 1)).map (fun d => (d.2, d.1.data.toList)) from rfl, ← List.drop_eq_getElem_cons hk, ← List.map_append, List.take_append_drop]
    · intro x hx
      obtain ⟨d, hd, rfl⟩ := List.mem_map.1 hx
      simpa using hno d hd
  rw [h]
theorem opOf_none {w : List UInt8} (hno : ∀ d ∈ funsL, d.1.data.toList ≠ w) : opOf w = 0 := by
  unfold opOf
  rw [List.find?_eq_none.2 (fun p hp => by rw [funs_lists] at hp; obtain ⟨d, hd, rfl⟩ := List.mem_map.1 hp; simpa using hno d hd)]
end Go.Proofs.YtobanldeicclmaaGreatDoor
namespace Go.Proofs.YtobanldeicclmaaGreatDoor
open Go.RowKit Vtx
theorem tok_paren {s : List UInt8} {i : Nat} {t : Tok} (h : tokAt s i = some t) {w : List UInt8} (e : t.tx = 40 :: w) : t.tx = [40] := by
  obtain ⟨-, hlt, -, -, -, htx, -⟩ := tok_in h
  rw [drop_cons hlt] at htx
  obtain ⟨c, hc⟩ : ∃ c, s.getD t.at_ 0 = c := ⟨_, rfl⟩
  obtain ⟨r, hr⟩ : ∃ r, s.drop (t.at_ + 1) = r := ⟨_, rfl⟩
  rw [hc, hr, e] at htx
  have hp := wordLen_pos c r
  obtain ⟨m, hm⟩ : ∃ m, wordLen (c :: r) = m + 1 := ⟨wordLen (c :: r) - 1, by omega⟩
  rw [hm, List.take_succ_cons] at htx
  injection htx with h1 h2
  subst h1
  have hl : wordLen (40 :: r) = 1 := by
    rw [wordLen, if_neg (by decide), if_neg (by decide), if_neg (by decide), if_neg (by decide), if_neg (by decide), if_neg (by decide)]
    cases r with
    | nil => rfl
    | cons d r => show (if twoB 40 d then 2 else 1) = 1; rw [if_neg (by simp [twoB])]
  have hm0 : m = 0 := by omega
  rw [e, h2, hm0]
  rfl
theorem readF_yes {s : List UInt8} {x : Val} (h : checkV x = 0) (he : showT x.k x.n x.s.data.toList x.l = s) : readF s = some x := by
  rw [← he]; exact readF_show h
theorem over_found {w : List UInt8} {k : Nat} (h1 : 0 < k) (h7 : k < 7) (hy : overT' (k : Nat) = w) : overOf w = (k : Nat) := by
  subst hy
  obtain rfl | rfl | rfl | rfl | rfl | rfl : k = 1 ∨ k = 2 ∨ k = 3 ∨ k = 4 ∨ k = 5 ∨ k = 6 := by omega
  all_goals decide
theorem over_none {w : List UInt8} (h : ∀ k : Nat, 0 < k → k < 7 → overT' (k : Nat) ≠ w) : overOf w = 0 := by
  have h1 := h 1 (by omega) (by omega)
  have h2 := h 2 (by omega) (by omega)
  have h3 := h 3 (by omega) (by omega)
  have h4 := h 4 (by omega) (by omega)
  have h5 := h 5 (by omega) (by omega)
  have h6 := h 6 (by omega) (by omega)
  unfold overOf
  rw [List.find?_eq_none.2 (fun o ho => ?_)]
  simp only [List.mem_cons, List.not_mem_nil, or_false] at ho
  rw [decide_eq_true_iff]
  rcases ho with rfl | rfl | rfl | rfl | rfl | rfl
  · exact h1
  · exact h2
  · exact h3
  · exact h4
  · exact h5
  · exact h6
theorem over_tx (k : Nat) (h : k < oversS.length) : oversS[k] = tb (overT' (k : Nat)) := by
  have h7 : k < 7 := h
  obtain rfl | rfl | rfl | rfl | rfl | rfl | rfl : k = 0 ∨ k = 1 ∨ k = 2 ∨ k = 3 ∨ k = 4 ∨ k = 5 ∨ k = 6 := by omega
  all_goals rfl
theorem over_pos (w : List UInt8) : 0 ≤ overOf w := by
  unfold overOf
  split
  · rename_i o ho
    have := List.mem_of_find?_eq_some ho
    simp only [List.mem_cons, List.not_mem_nil, or_false] at this
    omega
  · exact Int.le_refl _
theorem op_pos (w : List UInt8) : 0 ≤ opOf w ∧ opOf w ≤ 39 ∧ (opOf w ≠ 0 → 12 ≤ opOf w) := by
  unfold opOf
  split
  · rename_i o ho
    have h1 := List.mem_of_find?_eq_some ho
    have h2 : (funcsL.all fun p => decide (12 ≤ p.1 ∧ p.1 ≤ 39)) = true := by decide
    have h3 := List.all_eq_true.1 h2 o h1
    rw [decide_eq_true_iff] at h3
    omega
  · exact ⟨Int.le_refl _, by decide, fun h => absurd rfl h⟩
end Go.Proofs.YtobanldeicclmaaGreatDoor
namespace Go.Proofs.YtobanldeicclmaaGreatDoor
open Go.RowKit Vtx
attribute [local go_sem ↓] Go.wp_at_zero Go.wp_at_succ
theorem ret8 {w w5 : World} {g i : Nat} {s : ByteArray} {x : Ex} {A A' : Option Addr} {c c' : Nat} {L : Nat} (hx : ExIn w5 (fun b => L ≤ b) w5.heap.size x (exCells x A c A' c')) (hW : w.heap.size < L) (hg : g < w.heap.size) (hp : PaAt w5 g s i) (hk : Kp g w w5) :
    PRet w g s (.ok [x] (wordsOf s.data.toList i)) (.returned (.agg #[.int .i64 x.k, .int .i64 x.op, .string x.nm, .int .i64 x.v.k, .int .i64 x.v.n, .string x.v.s, .slice A x.v.l.length c, .slice A' x.ar.length c'])) (set8 w5 w.heap.size (.int .i64 x.k) (.int .i64 x.op) (.string x.nm) (.int .i64 x.v.k) (.int .i64 x.v.n) (.string x.v.s) (.slice A x.v.l.length c) (.slice A' x.ar.length c')) := by
  have hst : Stay (fun b => L ≤ b) w5 (set8 w5 w.heap.size (.int .i64 x.k) (.int .i64 x.op) (.string x.nm) (.int .i64 x.v.k) (.int .i64 x.v.n) (.string x.v.s) (.slice A x.v.l.length c) (.slice A' x.ar.length c')) :=
    ⟨by rw [set8_size]; exact Nat.le_refl _, fun k hk hl => by rw [set8_far _ _ _ _ _ _ _ _ _ _ k (by omega)]⟩
  exact ⟨x, i, exCells x A c A' c', rfl, rfl, rfl, ((hx.keep hst).up hst.1).imp (fun k hk _ => by omega), hp.kp (set8_far _ _ _ _ _ _ _ _ _ _ g (by omega)), set8_kp hk (Nat.le_refl _) _ _ _ _ _ _ _ _⟩
theorem addr_add (b o n : Nat) : (⟨b, o, none⟩ : Addr).add n = ⟨b, o + n, none⟩ := by unfold Addr.add; split <;> simp_all
/-- the words at hand are told by the parser's cells -/
theorem pa_words {w : World} {g i j : Nat} {s : ByteArray} (h : PaAt w g s i) (h' : PaAt w g s j) : wordsOf s.data.toList i = wordsOf s.data.toList j := by
  have e := h.b.symm.trans h'.b
  have ea : (#[.string s, .int .i64 (curAt s i : Nat), .string (tb (curTx s i)), .bool (curTouch s i)] : Array Value) = #[.string s, .int .i64 (curAt s j : Nat), .string (tb (curTx s j)), .bool (curTouch s j)] := by
    injection e with e
    injection e
  have el := congrArg Array.toList ea
  simp only [List.cons.injEq, Value.int.injEq, Value.string.injEq, Value.bool.injEq, true_and, and_true] at el
  obtain ⟨e1, e2, e3⟩ := el
  have e1 : curAt s i = curAt s j := by omega
  have e2 := tb_inj e2
  unfold curAt at e1
  unfold curTx at e2
  unfold curTouch at e3
  rw [words_eq s.data.toList i, words_eq s.data.toList j]
  cases hi : tokAt s.data.toList i with
  | none =>
    cases hj : tokAt s.data.toList j with
    | none => rfl
    | some u =>
      rw [hi, hj] at e2
      have h1 := (tok_in hj).2.2.1
      have e2 : [] = u.tx := e2
      rw [← e2] at h1
      exact absurd h1 (by simp)
  | some t =>
    cases hj : tokAt s.data.toList j with
    | none =>
      rw [hi, hj] at e2
      have h1 := (tok_in hi).2.2.1
      have e2 : t.tx = [] := e2
      rw [e2] at h1
      exact absurd h1 (by simp)
    | some u =>
      rw [hi, hj] at e1 e2 e3
      obtain ⟨a, b, c⟩ := t
      obtain ⟨a', b', c'⟩ := u
      simp only at e1 e2 e3
      subst e1 e2 e3
      rfl
open Classical in
noncomputable def cntW (w : World) (g : Nat) (s : ByteArray) : Nat := if h : ∃ i, PaAt w g s i then (wordsOf s.data.toList h.choose).length else 0
theorem cnt_eq {w : World} {g i : Nat} {s : ByteArray} (h : PaAt w g s i) : cntW w g s = (wordsOf s.data.toList i).length := by
  have hex : ∃ i, PaAt w g s i := ⟨i, h⟩
  unfold cntW
  rw [dif_pos hex, pa_words hex.choose_spec h]
theorem words_tail' {s : ByteArray} {i : Nat} (h : wordsOf s.data.toList i ≠ []) : wordsOf s.data.toList (curAt s i + (curTx s i).length) = (wordsOf s.data.toList i).tail ∧ (wordsOf s.data.toList (curAt s i + (curTx s i).length)).length + 1 = (wordsOf s.data.toList i).length := by
  unfold curAt curTx
  rw [words_eq s.data.toList i] at h ⊢
  cases ht : tokAt s.data.toList i with
  | none => rw [ht] at h; exact absurd rfl h
  | some t => exact ⟨rfl, rfl⟩
theorem sign_words {a b : Int} {l : List Tok} (h : signOf a b l ≠ 0) : l ≠ [] := by
  rintro rfl
  exact h (by unfold signOf; rw [if_neg (by simp [isW]), List.find?_eq_none.2 (fun o _ => by simp [isW])])
theorem own_two {w : World} {b B : Nat} {e : TypeId} {cs ds : List Value} (h : Blk w b e (cs ++ ds).toArray) (hB : B ≤ b) (hc : cs.length = 8) (hd : ds.length = 8) : w.ownsRow B e 8 (.slice (some ⟨b, 0, none⟩) 2 2) 2 (cs ++ ds) :=
  ⟨by simp [hc, hd], .inr ⟨b, 2, (cs ++ ds).toArray, rfl, hB, h, Nat.le_refl _, by unfold maxLen; omega, by simp [hc, hd], by rw [show 2 * 8 = (cs ++ ds).length by simp [hc, hd]]; exact List.take_length⟩⟩
theorem ExsIn.two {w : World} {p : Nat → Prop} {e f : Ex} {cs ds : List Value} (he : ExIn w p w.heap.size e cs) (hf : ExIn w p w.heap.size f ds) : ExsIn w p [e, f] [cs, ds] := (ExsIn.one he).snoc hf
theorem mkOp_inP {w : World} {p : Nat → Prop} {B : Nat} {es : List Ex} {css : List (List Value)} {A : Option Addr} {c : Nat} (o : Int) (h : ExsIn w p es css) (hL : ∀ k, B ≤ k → p k) (ho : w.ownsRow B 27 8 (.slice A es.length c) es.length css.flatten) (hm : es.length ≤ maxLen) :
    ExIn w p w.heap.size (mkOp o es) (exCells (mkOp o es) none 0 A c) := by
  have hA : ∀ ad, A = some ad → p ad.block := fun ad e => by
    subst e
    rcases ho.2 with ⟨h0, -⟩ | ⟨g', cap, cur, e0, e1, -⟩
    · cases h0
    · injection e0 with e0 _ _
      injection e0 with e0
      subst e0
      exact hL _ e1
  refine ExIn.mk (e := mkOp o es) (A := none) (c := 0) (A' := A) (c' := c) (cs := css.flatten) (show 0 ≤ maxLen from Nat.zero_le _) (show 0 ≤ maxLen from Nat.zero_le _) (show 0 ≤ maxLen from Nat.zero_le _) hm ⟨Reads.none_, fun _ ad e => by cases e⟩ ⟨Reads.of_own ho, fun _ => hA⟩ (fun i hi => ?_)
  have hi' : i < css.length := by rw [← h.len]; exact hi
  rw [flat8 css h.cells i hi']
  exact h.ex i hi hi'
theorem two_in {q : Nat → Prop} {w5 w6 : World} {y y2 : Ex} {A A' A3 A4 : Option Addr} {c c' c3 c4 : Nat} (o : Int) (hy : ExIn w5 q w5.heap.size y (exCells y A c A' c')) (hy2 : ExIn w5 q w5.heap.size y2 (exCells y2 A3 c3 A4 c4))
    (hb6 : Below (w5.alloc (.cells (exCells y A c A' c' ++ exCells y2 A3 c3 A4 c4).toArray 27 (0, 0))).heap.size (w5.alloc (.cells (exCells y A c A' c' ++ exCells y2 A3 c3 A4 c4).toArray 27 (0, 0))) w6) (hq : ∀ k, w5.heap.size ≤ k → q k) :
    ExIn w6 q w6.heap.size (mkOp o [y, y2]) (exCells (mkOp o [y, y2]) none 0 (some ⟨w5.heap.size, 0, none⟩) 2) := by
  have hs1 : Stay q w5 (w5.alloc (.cells (exCells y A c A' c' ++ exCells y2 A3 c3 A4 c4).toArray 27 (0, 0))) := Stay.of ((Below.refl _ _).alloc (Nat.le_refl _) _)
  have hs2 : Stay q _ w6 := Stay.of hb6
  have B6 : Blk w6 w5.heap.size 27 (exCells y A c A' c' ++ exCells y2 A3 c3 A4 c4).toArray := (Blk.new w5 _ _).below hb6 (Blk.new w5 _ _).lt
  exact mkOp_inP (B := w5.heap.size) o (ExsIn.two (((hy.keep hs1).keep hs2).up (Nat.le_trans hs1.1 hs2.1)) (((hy2.keep hs1).keep hs2).up (Nat.le_trans hs1.1 hs2.1))) hq (by simpa using own_two B6 (Nat.le_refl _) (exIn_len hy) (exIn_len hy2)) (show 2 ≤ maxLen by decide)
theorem one_in {q : Nat → Prop} {w5 w6 : World} {y : Ex} {A A' : Option Addr} {c c' : Nat} (o : Int) (hy : ExIn w5 q w5.heap.size y (exCells y A c A' c'))
    (hb6 : Below (w5.alloc (.cells (exCells y A c A' c').toArray 27 (0, 0))).heap.size (w5.alloc (.cells (exCells y A c A' c').toArray 27 (0, 0))) w6) (hq : ∀ k, w5.heap.size ≤ k → q k) :
    ExIn w6 q w6.heap.size (mkOp o [y]) (exCells (mkOp o [y]) none 0 (some ⟨w5.heap.size, 0, none⟩) 1) := by
  have hs1 : Stay q w5 (w5.alloc (.cells (exCells y A c A' c').toArray 27 (0, 0))) := Stay.of ((Below.refl _ _).alloc (Nat.le_refl _) _)
  have hs2 : Stay q _ w6 := Stay.of hb6
  have B6 : Blk w6 w5.heap.size 27 (exCells y A c A' c').toArray := (Blk.new w5 _ _).below hb6 (Blk.new w5 _ _).lt
  exact mkOp_inP (B := w5.heap.size) o (ExsIn.one (((hy.keep hs1).keep hs2).up (Nat.le_trans hs1.1 hs2.1))) hq (by simpa using own_new B6 (Nat.le_refl _) (exIn_len hy)) (show 1 ≤ maxLen by decide)
theorem set8_in {w : World} {q : Nat → Prop} {x : Ex} {cs : List Value} {b : Nat} (h : ExIn w q w.heap.size x cs) (hq : ∀ k, q k → k ≠ b) (v0 v1 v2 v3 v4 v5 v6 v7 : Value) : ExIn (set8 w b v0 v1 v2 v3 v4 v5 v6 v7) q (set8 w b v0 v1 v2 v3 v4 v5 v6 v7).heap.size x cs :=
  (h.keep ⟨by rw [set8_size]; exact Nat.le_refl _, fun k hk _ => set8_far _ _ _ _ _ _ _ _ _ _ k (hq k hk)⟩).up (by rw [set8_size]; exact Nat.le_refl _)
theorem ExIn.kpq {w w' : World} {q : Nat → Prop} {g : Nat} {x : Ex} {cs : List Value} (h : ExIn w q w.heap.size x cs) (hk : Kp g w w') (hq : ∀ k, q k → k ≠ g) : ExIn w' q w'.heap.size x cs := (h.keep (hk.stay hq)).up hk.size
theorem Blk.kp {w w' : World} {g b : Nat} {T : TypeId} {a : Array Value} (h : Blk w b T a) (hk : Kp g w w') (hb : b ≠ g) : Blk w' b T a := by
  have h1 := hk.block b h.lt (fun e => hb (by injection e))
  unfold Blk
  rw [h1]; exact h
theorem TM.below {w w' : World} {g : Nat} (h : TM w g) (hb : Below w.heap.size w w') : TM w' g := h.kp (Kp.of hb)
set_option maxHeartbeats 1000000 in
set_option maxRecDepth 100000 in
theorem or_spec (s : ByteArray) (L : List Tok) (h : ∀ L', L'.length ≤ L.length → PSpec 55 .and s L') : PSpec 31 .or s L := by
  intro g i w hp hm hL
  have HC := Lib.hid (fun W (hpW : PaAt W g s i) (hmW : TM W g) => several_and g s i W hpW hmW L hL h)
  rw [show tb orW = ⟨#[111, 114]⟩ from rfl, show ((Pz s.data.toList.length .and [] L).bind fun es l1 => Pz s.data.toList.length .orL es l1) = Pz s.data.toList.length .or [] L from by rw [Pz_eq _ .or]; rfl] at HC
  have HPA := Lib.hid hp
  have HM := Lib.hid hm
  have hlt := hp.b.lt
  obtain ⟨r, hr⟩ : ∃ r, Pz s.data.toList.length .or [] L = r := ⟨_, rfl⟩
  rw [hr] at HC ⊢
  clear hp hm hr
  go_enter Tryz.func31, Tryz.ntmps31
  go_wp2_with fail
  obtain ⟨W, hW⟩ : ∃ W, W = w.alloc (.cells #[.int .i64 0, .int .i64 0, .string ⟨#[]⟩, .int .i64 0, .int .i64 0, .string ⟨#[]⟩, .slice none 0 0, .slice none 0 0] 27 (0, 0)) := ⟨_, rfl⟩
  have hkW : Kp g w W := by rw [hW]; exact (kp_refl g w).alloc _
  have HPW := Lib.hid (show PaAt W g s i by rw [hW]; exact HPA.out.alloc _)
  have BR : Blk W w.heap.size 27 #[.int .i64 0, .int .i64 0, .string ⟨#[]⟩, .int .i64 0, .int .i64 0, .string ⟨#[]⟩, .slice none 0 0, .slice none 0 0] := by rw [hW]; exact Blk.new w _ _
  have hWs : w.heap.size < W.heap.size := BR.lt
  rw [← hW]
  clear hW
  refine (HC.out W HPW.out (HM.out.kp hkW)).mono ?_
  cases r with
  | err k =>
    rintro e w1 ⟨rfl, hk1⟩
    go_wp2_with fail
    exact ⟨rfl, rfl, hkW.trans hk1⟩
  | ok es l1 =>
    rintro e w1 ⟨x, i1, cs1, rfl, rfl, rfl, hx1, hp1, hk1⟩
    have HX1 := Lib.hid hx1
    obtain ⟨hn1, hs1, hl1, ha1, hxx1, hrr1, hii1⟩ := hx1
    rename_i A1 c1 A2 c2 csi1
    clear hxx1 hrr1 hii1 hn1 hs1 hl1 ha1
    have exa1 : (exCells x A1 c1 A2 c2).toArray = #[.int .i64 x.k, .int .i64 x.op, .string x.nm, .int .i64 x.v.k, .int .i64 x.v.n, .string x.v.s, .slice A1 x.v.l.length c1, .slice A2 x.ar.length c2] := rfl
    rw [exa1]
    clear exa1
    have B1 : Blk w1 w.heap.size 27 #[.int .i64 0, .int .i64 0, .string ⟨#[]⟩, .int .i64 0, .int .i64 0, .string ⟨#[]⟩, .slice none 0 0, .slice none 0 0] := by unfold Blk; rw [hk1.block _ BR.lt (fun e => by injection e with e; omega)]; exact BR
    clear BR
    have rc0 : w1.cell? ⟨w.heap.size, 0, none⟩ = some (.int .i64 0) := B1.cell 0
    have rz0 : w1.frozen? ⟨w.heap.size, 0, none⟩ = false := B1.frozen 0
    have rc1 : w1.cell? ⟨w.heap.size, 1, none⟩ = some (.int .i64 0) := B1.cell 1
    have rz1 : w1.frozen? ⟨w.heap.size, 1, none⟩ = false := B1.frozen 1
    have rc2 : w1.cell? ⟨w.heap.size, 2, none⟩ = some (.string ⟨#[]⟩) := B1.cell 2
    have rz2 : w1.frozen? ⟨w.heap.size, 2, none⟩ = false := B1.frozen 2
    have rc3 : w1.cell? ⟨w.heap.size, 3, none⟩ = some (.int .i64 0) := B1.cell 3
    have rz3 : w1.frozen? ⟨w.heap.size, 3, none⟩ = false := B1.frozen 3
    have rc4 : w1.cell? ⟨w.heap.size, 4, none⟩ = some (.int .i64 0) := B1.cell 4
    have rz4 : w1.frozen? ⟨w.heap.size, 4, none⟩ = false := B1.frozen 4
    have rc5 : w1.cell? ⟨w.heap.size, 5, none⟩ = some (.string ⟨#[]⟩) := B1.cell 5
    have rz5 : w1.frozen? ⟨w.heap.size, 5, none⟩ = false := B1.frozen 5
    have rc6 : w1.cell? ⟨w.heap.size, 6, none⟩ = some (.slice none 0 0) := B1.cell 6
    have rz6 : w1.frozen? ⟨w.heap.size, 6, none⟩ = false := B1.frozen 6
    have rc7 : w1.cell? ⟨w.heap.size, 7, none⟩ = some (.slice none 0 0) := B1.cell 7
    have rz7 : w1.frozen? ⟨w.heap.size, 7, none⟩ = false := B1.frozen 7
    go_wp2_with fail
    refine bodyPost_ret (v := .agg #[.int .i64 x.k, .int .i64 x.op, .string x.nm, .int .i64 x.v.k, .int .i64 x.v.n, .string x.v.s, .slice A1 x.v.l.length c1, .slice A2 x.ar.length c2]) (by simp [results, Tryz.results31, go_sem, rc0, rc1, rc2, rc3, rc4, rc5, rc6, rc7]) rfl ?_
    exact ret8 HX1.out hWs hlt hp1 (hkW.trans hk1)
set_option maxHeartbeats 1000000 in
set_option maxRecDepth 100000 in
theorem and_spec (s : ByteArray) (L : List Tok) (h : ∀ L', L'.length ≤ L.length → PSpec 86 .not s L') : PSpec 55 .and s L := by
  intro g i w hp hm hL
  have HC := Lib.hid (fun W (hpW : PaAt W g s i) (hmW : TM W g) => several_not g s i W hpW hmW L hL h)
  rw [show tb andW = ⟨#[97, 110, 100]⟩ from rfl, show ((Pz s.data.toList.length .not [] L).bind fun es l1 => Pz s.data.toList.length .andL es l1) = Pz s.data.toList.length .and [] L from by rw [Pz_eq _ .and]; rfl] at HC
  have HPA := Lib.hid hp
  have HM := Lib.hid hm
  have hlt := hp.b.lt
  obtain ⟨r, hr⟩ : ∃ r, Pz s.data.toList.length .and [] L = r := ⟨_, rfl⟩
  rw [hr] at HC ⊢
  clear hp hm hr
  go_enter Tryz.func55, Tryz.ntmps55
  go_wp2_with fail
  obtain ⟨W, hW⟩ : ∃ W, W = w.alloc (.cells #[.int .i64 0, .int .i64 0, .string ⟨#[]⟩, .int .i64 0, .int .i64 0, .string ⟨#[]⟩, .slice none 0 0, .slice none 0 0] 27 (0, 0)) := ⟨_, rfl⟩
  have hkW : Kp g w W := by rw [hW]; exact (kp_refl g w).alloc _
  have HPW := Lib.hid (show PaAt W g s i by rw [hW]; exact HPA.out.alloc _)
  have BR : Blk W w.heap.size 27 #[.int .i64 0, .int .i64 0, .string ⟨#[]⟩, .int .i64 0, .int .i64 0, .string ⟨#[]⟩, .slice none 0 0, .slice none 0 0] := by rw [hW]; exact Blk.new w _ _
  have hWs : w.heap.size < W.heap.size := BR.lt
  rw [← hW]
  clear hW
  refine (HC.out W HPW.out (HM.out.kp hkW)).mono ?_
  cases r with
  | err k =>
    rintro e w1 ⟨rfl, hk1⟩
    go_wp2_with fail
    exact ⟨rfl, rfl, hkW.trans hk1⟩
  | ok es l1 =>
    rintro e w1 ⟨x, i1, cs1, rfl, rfl, rfl, hx1, hp1, hk1⟩
    have HX1 := Lib.hid hx1
    obtain ⟨hn1, hs1, hl1, ha1, hxx1, hrr1, hii1⟩ := hx1
    rename_i A1 c1 A2 c2 csi1
    clear hxx1 hrr1 hii1 hn1 hs1 hl1 ha1
    have exa1 : (exCells x A1 c1 A2 c2).toArray = #[.int .i64 x.k, .int .i64 x.op, .string x.nm, .int .i64 x.v.k, .int .i64 x.v.n, .string x.v.s, .slice A1 x.v.l.length c1, .slice A2 x.ar.length c2] := rfl
    rw [exa1]
    clear exa1
    have B1 : Blk w1 w.heap.size 27 #[.int .i64 0, .int .i64 0, .string ⟨#[]⟩, .int .i64 0, .int .i64 0, .string ⟨#[]⟩, .slice none 0 0, .slice none 0 0] := by unfold Blk; rw [hk1.block _ BR.lt (fun e => by injection e with e; omega)]; exact BR
    clear BR
    have rc0 : w1.cell? ⟨w.heap.size, 0, none⟩ = some (.int .i64 0) := B1.cell 0
    have rz0 : w1.frozen? ⟨w.heap.size, 0, none⟩ = false := B1.frozen 0
    have rc1 : w1.cell? ⟨w.heap.size, 1, none⟩ = some (.int .i64 0) := B1.cell 1
    have rz1 : w1.frozen? ⟨w.heap.size, 1, none⟩ = false := B1.frozen 1
    have rc2 : w1.cell? ⟨w.heap.size, 2, none⟩ = some (.string ⟨#[]⟩) := B1.cell 2
    have rz2 : w1.frozen? ⟨w.heap.size, 2, none⟩ = false := B1.frozen 2
    have rc3 : w1.cell? ⟨w.heap.size, 3, none⟩ = some (.int .i64 0) := B1.cell 3
    have rz3 : w1.frozen? ⟨w.heap.size, 3, none⟩ = false := B1.frozen 3
    have rc4 : w1.cell? ⟨w.heap.size, 4, none⟩ = some (.int .i64 0) := B1.cell 4
    have rz4 : w1.frozen? ⟨w.heap.size, 4, none⟩ = false := B1.frozen 4
    have rc5 : w1.cell? ⟨w.heap.size, 5, none⟩ = some (.string ⟨#[]⟩) := B1.cell 5
    have rz5 : w1.frozen? ⟨w.heap.size, 5, none⟩ = false := B1.frozen 5
    have rc6 : w1.cell? ⟨w.heap.size, 6, none⟩ = some (.slice none 0 0) := B1.cell 6
    have rz6 : w1.frozen? ⟨w.heap.size, 6, none⟩ = false := B1.frozen 6
    have rc7 : w1.cell? ⟨w.heap.size, 7, none⟩ = some (.slice none 0 0) := B1.cell 7
    have rz7 : w1.frozen? ⟨w.heap.size, 7, none⟩ = false := B1.frozen 7
    go_wp2_with fail
    refine bodyPost_ret (v := .agg #[.int .i64 x.k, .int .i64 x.op, .string x.nm, .int .i64 x.v.k, .int .i64 x.v.n, .string x.v.s, .slice A1 x.v.l.length c1, .slice A2 x.ar.length c2]) (by simp [results, Tryz.results55, go_sem, rc0, rc1, rc2, rc3, rc4, rc5, rc6, rc7]) rfl ?_
    exact ret8 HX1.out hWs hlt hp1 (hkW.trans hk1)
end Go.Proofs.YtobanldeicclmaaGreatDoor
