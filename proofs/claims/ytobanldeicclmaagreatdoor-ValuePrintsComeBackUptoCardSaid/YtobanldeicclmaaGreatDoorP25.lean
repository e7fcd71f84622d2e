/- The walk of text, whole; Print. -/
import Derived.Test.YtobanldeicclmaaGreatDoorP24
import Derived.Deep.DrawnRows
import Derived.Deep.RegionHeld3
namespace Go.Proofs.YtobanldeicclmaaGreatDoor
open Go.RowKit
attribute [local go_sem ↓] Go.wp_at_zero Go.wp_at_succ
theorem over_at {w : World} {B : Nat} {ad : Addr} (h : StrsAt w B (some ad) oversS) {op : Int} (h1 : 1 ≤ op) (h2 : op ≤ 6) : ∃ b o, ad = ⟨b, o, none⟩ ∧ w.cell? ⟨b, o + op.toNat, none⟩ = some (.string (tx (overT' op))) := by
  obtain ⟨b, o, he, hb, hcell⟩ := h.plain (show 0 < oversS.length by decide)
  refine ⟨b, o, Option.some.inj he, hcell _ _ ?_⟩
  have hc : op.toNat = 1 ∨ op.toNat = 2 ∨ op.toNat = 3 ∨ op.toNat = 4 ∨ op.toNat = 5 ∨ op.toNat = 6 := by omega
  unfold overT'
  rcases hc with h | h | h | h | h | h <;> rw [h] <;> rfl
set_option maxHeartbeats 4000000 in
set_option maxRecDepth 100000 in
theorem text_over (e : Ex) (hk : e.k = 5) (hI : ∀ a ∈ e.ar, TextSpec 10 a) (h9 : ∀ a ∈ e.ar, a.text.length ≤ 1000000000) (hj : ∀ l, ((insL l e.ar).map List.length).sum + 98 * e.ar.length ≤ 999999000) (hla : e.ar.length ≤ 999999) (hP : partF e = 0) (B : Nat) (cs : List Value) (w : World) (hx : ExAt w B e cs) (hB : B ≤ w.heap.size) (htab : Tab w) (hm : Mx w) :
    Calls Tryz.prog 10 #[.agg cs.toArray] w fun en w' => en = .returned (.string (tx (e.text))) ∧ Below w.heap.size w w' := by
  have P := partOk hP
  have HX := Lib.hid hx
  obtain ⟨R, hR⟩ : ∃ R, e.text = R := ⟨_, rfl⟩
  rw [hR]
  have hte := hR.symm.trans (text_eq e)
  have HTM := Lib.hid (fun w' (hb : Below w.heap.size w w') => And.intro (tabIs_below htab hb) (hm.below hb))
  obtain ⟨hn, hs, hl, ha, hx, hr, hi⟩ := hx
  rename_i A1 c1 A2 c2 cs
  have HXX := Lib.hid (fun w' (hb : Below w.heap.size w w') => HX.out.keep (hb.mono hB))
  have hk1 : (e.k == 1) = false := by rw [hk]; rfl
  have hk2 : (e.k == 2) = false := by rw [hk]; rfl
  have hk3 : (e.k == 3) = false := by rw [hk]; rfl
  have hk5 : (e.k == 5) = true := by rw [hk]; rfl
  rw [if_neg (by omega), if_neg (by omega), if_neg (by omega), if_pos hk] at hte
  have hop := P.op5 hk
  have h1 := P.a5 hk
  have hnl := name_le (part_name hP (.inr (.inr hk)))
  have hns : e.nm.size ≤ 16 := by simpa using hnl
  obtain ⟨ad, ci0, rfl, hb0, hci0, hcell0⟩ := exs_at hr hi (show 0 < e.ar.length by omega)
  have hg := ins_get 0 e.ar 0 (by omega)
  have hz := h9 _ (List.getElem_mem (show 0 < e.ar.length by omega))
  have hTa := hI _ (List.getElem_mem (show 0 < e.ar.length by omega))
  obtain ⟨a, hea⟩ : ∃ a, e.ar[0] = a := ⟨_, rfl⟩
  rw [hea] at hci0 hg hz hTa
  have HCI := Lib.hid hci0
  obtain ⟨z1, z2, z3, z4, hxa, hra, hia⟩ := hci0
  rename_i A3 c3 A4 c4 cs3
  have hcell0' : ∀ j u, (exCells a A3 c3 A4 c4)[j]? = some u → w.cell? (ad.add j) = some u := fun j u hu => by have h := hcell0 j u hu; rwa [Nat.zero_mul, add_zero_ad] at h
  have fc0 : w.cell? (ad) = some (.int .i64 a.k) := hcell0' 0 _ rfl
  have fc1 : w.cell? ⟨(ad).block, (ad).off + 1, none⟩ = some (.int .i64 a.op) := hcell0' 1 _ rfl
  have fc2 : w.cell? ⟨(ad).block, (ad).off + 2, none⟩ = some (.string a.nm) := hcell0' 2 _ rfl
  have fc3 : w.cell? ⟨(ad).block, (ad).off + 3, none⟩ = some (.int .i64 a.v.k) := hcell0' 3 _ rfl
  have fc4 : w.cell? ⟨(ad).block, (ad).off + 4, none⟩ = some (.int .i64 a.v.n) := hcell0' 4 _ rfl
  have fc5 : w.cell? ⟨(ad).block, (ad).off + 5, none⟩ = some (.string a.v.s) := hcell0' 5 _ rfl
  have fc6 : w.cell? ⟨(ad).block, (ad).off + 6, none⟩ = some (.slice A3 a.v.l.length c3) := hcell0' 6 _ rfl
  have fc7 : w.cell? ⟨(ad).block, (ad).off + 7, none⟩ = some (.slice A4 a.ar.length c4) := hcell0' 7 _ rfl
  have HL1 := Lib.hid h1
  have hrb := row_bd a
  obtain ⟨t, htt⟩ : ∃ t, tx a.text = t := ⟨_, rfl⟩
  obtain ⟨s, hss⟩ : ∃ s, tx (overT' e.op) = s := ⟨_, rfl⟩
  have st : t.size ≤ 1000000000 := by rw [← htt, tx_size]; exact hz
  have ss : s.size ≤ 5 := by rw [← hss, tx_size]; exact over_le e.op
  have HSS := Lib.hid hss
  have HTT := Lib.hid htt
  have HOP := Lib.hid hop
  have HTA := Lib.hid hTa
  have HR := Lib.hid (show tx R = s ++ ⟨#[40]⟩ ++ e.nm ++ ⟨#[58, 32]⟩ ++ t ++ ⟨#[41]⟩ by
    rw [hte, hg, ← hss, ← htt]
    have hp : parT (decide (rowN a < 0)) a.text = a.text := by unfold parT; rw [decide_eq_false (by omega)]; rfl
    rw [hp]
    have hnm : e.nm = tx e.nm.data.toList := tx_of rfl
    rw [hnm, ← tx_cat, ← tx_cat, ← tx_cat, ← tx_cat, ← tx_cat]
    rw [← hnm]; try rfl)
  have o1 : 0 ≤ e.op := by omega
  have o2 : e.op < 7 := by omega
  clear hx hr hi htab hm hI h9 hj hla hR hte hcell0 hcell0' hxa hra hia hb0 hea z1 z2 z3 z4 P hP hk hg hz hTa htt hss hrb hnl hop
  change Hid (∀ w', Below w.heap.size w w' → ExAt w' B e [.int .i64 e.k, .int .i64 e.op, .string e.nm, .int .i64 e.v.k, .int .i64 e.v.n, .string e.v.s, .slice A1 e.v.l.length c1, .slice (some ad) e.ar.length c2]) at HXX
  rw [h1] at HXX
  show Calls Tryz.prog 10 #[.agg #[.int .i64 e.k, .int .i64 e.op, .string e.nm, .int .i64 e.v.k, .int .i64 e.v.n, .string e.v.s, .slice A1 e.v.l.length c1, .slice (some ad) e.ar.length c2]] w _
  rw [h1]
  clear h1
  go_enter Tryz.func10, Tryz.ntmps10
  go_upto_region 1 with (fail)
  obtain ⟨W, hW⟩ : ∃ W, W = (w.alloc (.cells #[.int .i64 e.k, .int .i64 e.op, .string e.nm, .int .i64 e.v.k, .int .i64 e.v.n, .string e.v.s, .slice A1 e.v.l.length c1, .slice (some ad) 1 c2] 27 (0, 0))) := ⟨_, rfl⟩
  have hbw : Below w.heap.size w W := by rw [hW]; exact ((Below.refl _ w).alloc (Nat.le_refl _) _)
  have B0 : Blk W (w.heap.size) 27 #[.int .i64 e.k, .int .i64 e.op, .string e.nm, .int .i64 e.v.k, .int .i64 e.v.n, .string e.v.s, .slice A1 e.v.l.length c1, .slice (some ad) 1 c2] := by
    rw [hW]
    have := Blk.new w 27 #[.int .i64 e.k, .int .i64 e.op, .string e.nm, .int .i64 e.v.k, .int .i64 e.v.n, .string e.v.s, .slice A1 e.v.l.length c1, .slice (some ad) 1 c2]
    exact this
  have hsz : W.heap.size = w.heap.size + 1 := by rw [hW]; simp
  rw [← hW]
  have ec0 : W.cell? ⟨w.heap.size, 0, none⟩ = some (.int .i64 e.k) := B0.cell 0
  have ec1 : W.cell? ⟨w.heap.size, 1, none⟩ = some (.int .i64 e.op) := B0.cell 1
  have ec2 : W.cell? ⟨w.heap.size, 2, none⟩ = some (.string e.nm) := B0.cell 2
  have ec3 : W.cell? ⟨w.heap.size, 3, none⟩ = some (.int .i64 e.v.k) := B0.cell 3
  have ec4 : W.cell? ⟨w.heap.size, 4, none⟩ = some (.int .i64 e.v.n) := B0.cell 4
  have ec5 : W.cell? ⟨w.heap.size, 5, none⟩ = some (.string e.v.s) := B0.cell 5
  have ec6 : W.cell? ⟨w.heap.size, 6, none⟩ = some (.slice A1 e.v.l.length c1) := B0.cell 6
  have ec7 : W.cell? ⟨w.heap.size, 7, none⟩ = some (.slice (some ad) 1 c2) := B0.cell 7
  have gc0 : W.cell? ad = some (.int .i64 a.k) := Below.cell_of hbw fc0
  have gc1 : W.cell? ⟨ad.block, ad.off + 1, none⟩ = some (.int .i64 a.op) := Below.cell_of hbw fc1
  have gc2 : W.cell? ⟨ad.block, ad.off + 2, none⟩ = some (.string a.nm) := Below.cell_of hbw fc2
  have gc3 : W.cell? ⟨ad.block, ad.off + 3, none⟩ = some (.int .i64 a.v.k) := Below.cell_of hbw fc3
  have gc4 : W.cell? ⟨ad.block, ad.off + 4, none⟩ = some (.int .i64 a.v.n) := Below.cell_of hbw fc4
  have gc5 : W.cell? ⟨ad.block, ad.off + 5, none⟩ = some (.string a.v.s) := Below.cell_of hbw fc5
  have gc6 : W.cell? ⟨ad.block, ad.off + 6, none⟩ = some (.slice A3 a.v.l.length c3) := Below.cell_of hbw fc6
  have gc7 : W.cell? ⟨ad.block, ad.off + 7, none⟩ = some (.slice A4 a.ar.length c4) := Below.cell_of hbw fc7
  clear hW hsz fc0 fc1 fc2 fc3 fc4 fc5 fc6 fc7
  have K1 := Lib.hid (show ∀ w', Below W.heap.size W w' → Calls Tryz.prog 22 #[] w' fun en w'' => ∃ b o, en = .returned (.slice (some ⟨b, o, none⟩) 7 7) ∧ w''.cell? ⟨b, o + e.op.toNat, none⟩ = some (.string s) ∧ Below W.heap.size W w'' ∧ Below w'.heap.size w' w'' from fun w' hb =>
    (overNames_any w').mono fun _ w'' ⟨ad, he, hs, hk⟩ => by
      obtain ⟨b, o, rfl, hc⟩ := over_at hs HOP.out.1 HOP.out.2
      exact ⟨b, o, he, by rw [hc, HSS.out], hb.trans (hk.mono hb.size), hk⟩)
  have K2 := Lib.hid (show ∀ w', Below W.heap.size W w' → Calls Tryz.prog 10 #[.agg #[.int .i64 a.k, .int .i64 a.op, .string a.nm, .int .i64 a.v.k, .int .i64 a.v.n, .string a.v.s, .slice A3 a.v.l.length c3, .slice A4 a.ar.length c4]] w' fun en w'' => en = .returned (.string t) ∧ Below W.heap.size W w'' ∧ Below w'.heap.size w' w'' from fun w' hb => by
    have hbb := hbw.trans (hb.mono hbw.size)
    have h := HTA.out B _ w' (HCI.out.keep (hbb.mono hB)) (Nat.le_trans hB hbb.size) (HTM.out w' hbb).1 (HTM.out w' hbb).2
    rw [HTT.out] at h
    exact h.mono fun _ _ ⟨he, hk⟩ => ⟨he, hb.trans (hk.mono hb.size), hk⟩)
  have HS := Lib.hid (show ∀ w', Below W.heap.size W w' → w'.cell? ⟨w.heap.size, 1, none⟩ = some (.int .i64 e.op) ∧ w'.cell? ⟨w.heap.size, 2, none⟩ = some (.string e.nm) ∧ w'.cell? ⟨w.heap.size, 7, none⟩ = some (.slice (some ad) 1 c2) ∧ w'.cell? ad = some (.int .i64 a.k) ∧ w'.cell? ⟨ad.block, ad.off + 1, none⟩ = some (.int .i64 a.op) ∧ w'.cell? ⟨ad.block, ad.off + 2, none⟩ = some (.string a.nm) ∧ w'.cell? ⟨ad.block, ad.off + 3, none⟩ = some (.int .i64 a.v.k) ∧ w'.cell? ⟨ad.block, ad.off + 4, none⟩ = some (.int .i64 a.v.n) ∧ w'.cell? ⟨ad.block, ad.off + 5, none⟩ = some (.string a.v.s) ∧ w'.cell? ⟨ad.block, ad.off + 6, none⟩ = some (.slice A3 a.v.l.length c3) ∧ w'.cell? ⟨ad.block, ad.off + 7, none⟩ = some (.slice A4 a.ar.length c4) ∧ Below W.heap.size W w' from fun w' hb => ⟨Below.cell_of hb ec1, Below.cell_of hb ec2, Below.cell_of hb ec7, Below.cell_of hb gc0, Below.cell_of hb gc1, Below.cell_of hb gc2, Below.cell_of hb gc3, Below.cell_of hb gc4, Below.cell_of hb gc5, Below.cell_of hb gc6, Below.cell_of hb gc7, hb⟩)
  have hq0 : Below W.heap.size W W := Below.refl _ _
  clear B0
  go_upto_region 9 with (fail)
  refine wp_region_noPanic ?_
  refine wp_region_held_drew (S := (fun w' => w'.cell? ⟨w.heap.size, 1, none⟩ = some (.int .i64 e.op) ∧ w'.cell? ⟨w.heap.size, 2, none⟩ = some (.string e.nm) ∧ w'.cell? ⟨w.heap.size, 7, none⟩ = some (.slice (some ad) 1 c2) ∧ w'.cell? ad = some (.int .i64 a.k) ∧ w'.cell? ⟨ad.block, ad.off + 1, none⟩ = some (.int .i64 a.op) ∧ w'.cell? ⟨ad.block, ad.off + 2, none⟩ = some (.string a.nm) ∧ w'.cell? ⟨ad.block, ad.off + 3, none⟩ = some (.int .i64 a.v.k) ∧ w'.cell? ⟨ad.block, ad.off + 4, none⟩ = some (.int .i64 a.v.n) ∧ w'.cell? ⟨ad.block, ad.off + 5, none⟩ = some (.string a.v.s) ∧ w'.cell? ⟨ad.block, ad.off + 6, none⟩ = some (.slice A3 a.v.l.length c3) ∧ w'.cell? ⟨ad.block, ad.off + 7, none⟩ = some (.slice A4 a.ar.length c4) ∧ Below W.heap.size W w')) (by kernel_rfl) ?_ (fun hHeld => ?_)
  · ((try dsimp only); (first | exact HS.out _ hq0.drew | exact HS.out _ hq0 | exact HS.out _ hq1 | exact HS.out _ hq3 | exact HS.out _ hqe))
  refine wpAnyH_take (i := 1) (v := ?v1) rfl (by kernel_rfl) (by kernel_rfl) (by kernel_rfl) (fun _ _ _ h => h) (Or.inl ⟨by rfl, ?y1⟩) (by assumption) ?r1
  case y1 => (intro w hSw; (try dsimp only at hSw); go_simp; try with_reducible rfl)
  try simp only [List.getElem_toArray, List.getElem_cons_succ, List.getElem_cons_zero, Act.put, List.setIfInBounds_toArray, List.set_cons_zero, List.set_cons_succ]
  refine wpAnyH_take (i := 2) (v := ?v2) rfl (by kernel_rfl) (by kernel_rfl) (by kernel_rfl) (fun _ _ _ h => h) (Or.inl ⟨by rfl, ?y2⟩) (by assumption) ?r2
  case y2 => (intro w hSw; (try dsimp only at hSw); go_simp; try with_reducible rfl)
  try simp only [List.getElem_toArray, List.getElem_cons_succ, List.getElem_cons_zero, Act.put, List.setIfInBounds_toArray, List.set_cons_zero, List.set_cons_succ]
  refine wpAnyH_take (i := 6) (v := ?v3) rfl (by kernel_rfl) (by kernel_rfl) (by kernel_rfl) (fun _ _ _ h => h) (Or.inl ⟨by rfl, ?y3⟩) (by assumption) ?r3
  case y3 => (intro w hSw; (try dsimp only at hSw); go_simp; try with_reducible rfl)
  try simp only [List.getElem_toArray, List.getElem_cons_succ, List.getElem_cons_zero, Act.put, List.setIfInBounds_toArray, List.set_cons_zero, List.set_cons_succ]
  refine wpAnyH_take (i := 7) (v := ?v4) rfl (by kernel_rfl) (by kernel_rfl) (by kernel_rfl) (fun _ _ _ h => h) (Or.inl ⟨by rfl, ?y4⟩) (by assumption) ?r4
  case y4 => (intro w hSw; (try dsimp only at hSw); go_simp; try with_reducible rfl)
  try simp only [List.getElem_toArray, List.getElem_cons_succ, List.getElem_cons_zero, Act.put, List.setIfInBounds_toArray, List.set_cons_zero, List.set_cons_succ]
  refine wpAnyH_take (i := 10) (v := ?v5) rfl (by kernel_rfl) (by kernel_rfl) (by kernel_rfl) (fun _ _ _ h => h) (Or.inl ⟨by rfl, ?y5⟩) (by assumption) ?r5
  case y5 => (intro w hSw; (try dsimp only at hSw); go_simp; try with_reducible rfl)
  try simp only [List.getElem_toArray, List.getElem_cons_succ, List.getElem_cons_zero, Act.put, List.setIfInBounds_toArray, List.set_cons_zero, List.set_cons_succ]
  refine wpAnyH_take (i := 11) (v := ?v6) rfl (by kernel_rfl) (by kernel_rfl) (by kernel_rfl) (fun _ _ _ h => h) (Or.inl ⟨by rfl, ?y6⟩) (by assumption) ?r6
  case y6 => (intro w hSw; (try dsimp only at hSw); go_simp; try with_reducible rfl)
  try simp only [List.getElem_toArray, List.getElem_cons_succ, List.getElem_cons_zero, Act.put, List.setIfInBounds_toArray, List.set_cons_zero, List.set_cons_succ]
  refine wpAnyH_take (i := 12) (v := ?v7) rfl (by kernel_rfl) (by kernel_rfl) (by kernel_rfl) (fun _ _ _ h => h) (Or.inl ⟨by rfl, ?y7⟩) (by assumption) ?r7
  case y7 => (intro w hSw; (try dsimp only at hSw); go_simp; try with_reducible rfl)
  try simp only [List.getElem_toArray, List.getElem_cons_succ, List.getElem_cons_zero, Act.put, List.setIfInBounds_toArray, List.set_cons_zero, List.set_cons_succ]
  refine wpAnyH_take (i := 13) (v := ?v8) rfl (by kernel_rfl) (by kernel_rfl) (by kernel_rfl) (fun _ _ _ h => h) (Or.inl ⟨by rfl, ?y8⟩) (by assumption) ?r8
  case y8 => (intro w hSw; (try dsimp only at hSw); go_simp; try with_reducible rfl)
  try simp only [List.getElem_toArray, List.getElem_cons_succ, List.getElem_cons_zero, Act.put, List.setIfInBounds_toArray, List.set_cons_zero, List.set_cons_succ]
  refine wpAnyH_ready (rs := [0]) (by kernel_rfl) (by simp) ?_
  refine AllReadyH.cons rfl (fun K hK => ?_) ?_
  · go_simp
    (first | (go_at_call 22; (with_reducible refine (K1.out _ hq0.drew).mono ?_); rintro e1 w1 ⟨b, o, rfl, hoc, hq1, hk1'⟩) | (go_at_call 22; (with_reducible refine (K1.out _ hq3).mono ?_); rintro e1 w1 ⟨b, o, rfl, hoc, hqe, hk1'⟩) | (go_at_call 10; (with_reducible refine (K2.out _ hq0.drew).mono ?_); rintro e3 w3 ⟨rfl, hq3, hk3'⟩) | (go_at_call 10; (with_reducible refine (K2.out _ hq1).mono ?_); rintro e3 w3 ⟨rfl, hqe, hk3'⟩; have hoc3 := Below.cell_of hk3' hoc))
    try go_wp2_with fail
    refine hK.out _ _ ?_ (fun hHeld => ?_)
    · ((try dsimp only); (first | exact HS.out _ hq0.drew | exact HS.out _ hq0 | exact HS.out _ hq1 | exact HS.out _ hq3 | exact HS.out _ hqe))
    clear hK K
    try simp only [List.getElem_toArray, List.getElem_cons_succ, List.getElem_cons_zero, Act.put, List.setIfInBounds_toArray, List.set_cons_zero, List.set_cons_succ]
    refine wpAnyH_take (i := 3) (v := ?v9) rfl (by kernel_rfl) (by kernel_rfl) (by kernel_rfl) (fun _ _ _ h => h) (Or.inl ⟨by rfl, ?y9⟩) (by assumption) ?r9
    case y9 => (intro w hSw; (try dsimp only at hSw); go_simp; try with_reducible rfl)
    try simp only [List.getElem_toArray, List.getElem_cons_succ, List.getElem_cons_zero, Act.put, List.setIfInBounds_toArray, List.set_cons_zero, List.set_cons_succ]
    refine wpAnyH_ready (rs := [4, 14]) (by kernel_rfl) (by simp) ?_
    refine AllReadyH.cons rfl (fun K hK => ?_) ?_
    · go_simp
      try go_wp2_with fail
      refine hK.out _ _ ?_ (fun hHeld => ?_)
      · ((try dsimp only); (first | exact HS.out _ hq0.drew | exact HS.out _ hq0 | exact HS.out _ hq1 | exact HS.out _ hq3 | exact HS.out _ hqe))
      clear hK K
      try simp only [List.getElem_toArray, List.getElem_cons_succ, List.getElem_cons_zero, Act.put, List.setIfInBounds_toArray, List.set_cons_zero, List.set_cons_succ]
      refine wpAnyH_ready (rs := [5, 14]) (by kernel_rfl) (by simp) ?_
      refine AllReadyH.cons rfl (fun K hK => ?_) ?_
      · go_simp
        try go_wp2_with fail
        refine hK.out _ _ ?_ (fun hHeld => ?_)
        · ((try dsimp only); (first | exact HS.out _ hq0.drew | exact HS.out _ hq0 | exact HS.out _ hq1 | exact HS.out _ hq3 | exact HS.out _ hqe))
        clear hK K
        try simp only [List.getElem_toArray, List.getElem_cons_succ, List.getElem_cons_zero, Act.put, List.setIfInBounds_toArray, List.set_cons_zero, List.set_cons_succ]
        refine wpAnyH_ready (rs := [8, 14]) (by kernel_rfl) (by simp) ?_
        refine AllReadyH.cons rfl (fun K hK => ?_) ?_
        · go_simp
          try go_wp2_with fail
          refine hK.out _ _ ?_ (fun hHeld => ?_)
          · ((try dsimp only); (first | exact HS.out _ hq0.drew | exact HS.out _ hq0 | exact HS.out _ hq1 | exact HS.out _ hq3 | exact HS.out _ hqe))
          clear hK K
          try simp only [List.getElem_toArray, List.getElem_cons_succ, List.getElem_cons_zero, Act.put, List.setIfInBounds_toArray, List.set_cons_zero, List.set_cons_succ]
          refine wpAnyH_ready (rs := [9, 14]) (by kernel_rfl) (by simp) ?_
          refine AllReadyH.cons rfl (fun K hK => ?_) ?_
          · go_simp
            try go_wp2_with fail
            refine hK.out _ _ ?_ (fun hHeld => ?_)
            · ((try dsimp only); (first | exact HS.out _ hq0.drew | exact HS.out _ hq0 | exact HS.out _ hq1 | exact HS.out _ hq3 | exact HS.out _ hqe))
            clear hK K
            try simp only [List.getElem_toArray, List.getElem_cons_succ, List.getElem_cons_zero, Act.put, List.setIfInBounds_toArray, List.set_cons_zero, List.set_cons_succ]
            refine wpAnyH_ready (rs := [14]) (by kernel_rfl) (by simp) ?_
            refine AllReadyH.cons rfl (fun K hK => ?_) ?_
            · go_simp
              (first | (go_at_call 22; (with_reducible refine (K1.out _ hq0.drew).mono ?_); rintro e1 w1 ⟨b, o, rfl, hoc, hq1, hk1'⟩) | (go_at_call 22; (with_reducible refine (K1.out _ hq3).mono ?_); rintro e1 w1 ⟨b, o, rfl, hoc, hqe, hk1'⟩) | (go_at_call 10; (with_reducible refine (K2.out _ hq0.drew).mono ?_); rintro e3 w3 ⟨rfl, hq3, hk3'⟩) | (go_at_call 10; (with_reducible refine (K2.out _ hq1).mono ?_); rintro e3 w3 ⟨rfl, hqe, hk3'⟩; have hoc3 := Below.cell_of hk3' hoc))
              try go_wp2_with fail
              refine hK.out _ _ ?_ (fun hHeld => ?_)
              · ((try dsimp only); (first | exact HS.out _ hq0.drew | exact HS.out _ hq0 | exact HS.out _ hq1 | exact HS.out _ hq3 | exact HS.out _ hqe))
              clear hK K
              try simp only [List.getElem_toArray, List.getElem_cons_succ, List.getElem_cons_zero, Act.put, List.setIfInBounds_toArray, List.set_cons_zero, List.set_cons_succ]
              refine wpAnyH_ready (rs := [15]) (by kernel_rfl) (by simp) ?_
              refine AllReadyH.cons rfl (fun K hK => ?_) ?_
              · go_simp
                try go_wp2_with fail
                refine hK.out _ _ ?_ (fun hHeld => ?_)
                · ((try dsimp only); (first | exact HS.out _ hq0.drew | exact HS.out _ hq0 | exact HS.out _ hq1 | exact HS.out _ hq3 | exact HS.out _ hqe))
                clear hK K
                try simp only [List.getElem_toArray, List.getElem_cons_succ, List.getElem_cons_zero, Act.put, List.setIfInBounds_toArray, List.set_cons_zero, List.set_cons_succ]
                refine wpAnyH_ready (rs := [16]) (by kernel_rfl) (by simp) ?_
                refine AllReadyH.cons rfl (fun K hK => ?_) ?_
                · go_simp
                  try go_wp2_with fail
                  refine hK.out _ _ ?_ (fun hHeld => ?_)
                  · ((try dsimp only); (first | exact HS.out _ hq0.drew | exact HS.out _ hq0 | exact HS.out _ hq1 | exact HS.out _ hq3 | exact HS.out _ hqe))
                  clear hK K
                  try simp only [List.getElem_toArray, List.getElem_cons_succ, List.getElem_cons_zero, Act.put, List.setIfInBounds_toArray, List.set_cons_zero, List.set_cons_succ]
                  refine wpAnyH_take (i := 17) (v := ?v10) rfl (by kernel_rfl) (by kernel_rfl) (by kernel_rfl) (fun _ _ _ h => h) (Or.inl ⟨by rfl, ?y10⟩) (by assumption) ?r10
                  case y10 => (intro w hSw; (try dsimp only at hSw); go_simp; try with_reducible rfl)
                  try simp only [List.getElem_toArray, List.getElem_cons_succ, List.getElem_cons_zero, Act.put, List.setIfInBounds_toArray, List.set_cons_zero, List.set_cons_succ]
                  refine wpAnyH_done (by kernel_rfl) ?_ _
                  refine NoPanic.normal ?_
                  have hbwz := hbw.trans (hqe.mono hbw.size)
                  clear HS K1 K2
                  go_wp2_with fail
                  go_ret
                  exact ⟨by rw [HR.out]; try rfl, hbwz⟩
                exact AllReadyH.nil
              exact AllReadyH.nil
            exact AllReadyH.nil
          refine AllReadyH.cons rfl (fun K hK => ?_) ?_
          · go_simp
            (first | (go_at_call 22; (with_reducible refine (K1.out _ hq0.drew).mono ?_); rintro e1 w1 ⟨b, o, rfl, hoc, hq1, hk1'⟩) | (go_at_call 22; (with_reducible refine (K1.out _ hq3).mono ?_); rintro e1 w1 ⟨b, o, rfl, hoc, hqe, hk1'⟩) | (go_at_call 10; (with_reducible refine (K2.out _ hq0.drew).mono ?_); rintro e3 w3 ⟨rfl, hq3, hk3'⟩) | (go_at_call 10; (with_reducible refine (K2.out _ hq1).mono ?_); rintro e3 w3 ⟨rfl, hqe, hk3'⟩; have hoc3 := Below.cell_of hk3' hoc))
            try go_wp2_with fail
            refine hK.out _ _ ?_ (fun hHeld => ?_)
            · ((try dsimp only); (first | exact HS.out _ hq0.drew | exact HS.out _ hq0 | exact HS.out _ hq1 | exact HS.out _ hq3 | exact HS.out _ hqe))
            clear hK K
            try simp only [List.getElem_toArray, List.getElem_cons_succ, List.getElem_cons_zero, Act.put, List.setIfInBounds_toArray, List.set_cons_zero, List.set_cons_succ]
            refine wpAnyH_ready (rs := [9]) (by kernel_rfl) (by simp) ?_
            refine AllReadyH.cons rfl (fun K hK => ?_) ?_
            · go_simp
              try go_wp2_with fail
              refine hK.out _ _ ?_ (fun hHeld => ?_)
              · ((try dsimp only); (first | exact HS.out _ hq0.drew | exact HS.out _ hq0 | exact HS.out _ hq1 | exact HS.out _ hq3 | exact HS.out _ hqe))
              clear hK K
              try simp only [List.getElem_toArray, List.getElem_cons_succ, List.getElem_cons_zero, Act.put, List.setIfInBounds_toArray, List.set_cons_zero, List.set_cons_succ]
              refine wpAnyH_ready (rs := [15]) (by kernel_rfl) (by simp) ?_
              refine AllReadyH.cons rfl (fun K hK => ?_) ?_
              · go_simp
                try go_wp2_with fail
                refine hK.out _ _ ?_ (fun hHeld => ?_)
                · ((try dsimp only); (first | exact HS.out _ hq0.drew | exact HS.out _ hq0 | exact HS.out _ hq1 | exact HS.out _ hq3 | exact HS.out _ hqe))
                clear hK K
                try simp only [List.getElem_toArray, List.getElem_cons_succ, List.getElem_cons_zero, Act.put, List.setIfInBounds_toArray, List.set_cons_zero, List.set_cons_succ]
                refine wpAnyH_ready (rs := [16]) (by kernel_rfl) (by simp) ?_
                refine AllReadyH.cons rfl (fun K hK => ?_) ?_
                · go_simp
                  try go_wp2_with fail
                  refine hK.out _ _ ?_ (fun hHeld => ?_)
                  · ((try dsimp only); (first | exact HS.out _ hq0.drew | exact HS.out _ hq0 | exact HS.out _ hq1 | exact HS.out _ hq3 | exact HS.out _ hqe))
                  clear hK K
                  try simp only [List.getElem_toArray, List.getElem_cons_succ, List.getElem_cons_zero, Act.put, List.setIfInBounds_toArray, List.set_cons_zero, List.set_cons_succ]
                  refine wpAnyH_take (i := 17) (v := ?v11) rfl (by kernel_rfl) (by kernel_rfl) (by kernel_rfl) (fun _ _ _ h => h) (Or.inl ⟨by rfl, ?y11⟩) (by assumption) ?r11
                  case y11 => (intro w hSw; (try dsimp only at hSw); go_simp; try with_reducible rfl)
                  try simp only [List.getElem_toArray, List.getElem_cons_succ, List.getElem_cons_zero, Act.put, List.setIfInBounds_toArray, List.set_cons_zero, List.set_cons_succ]
                  refine wpAnyH_done (by kernel_rfl) ?_ _
                  refine NoPanic.normal ?_
                  have hbwz := hbw.trans (hqe.mono hbw.size)
                  clear HS K1 K2
                  go_wp2_with fail
                  go_ret
                  exact ⟨by rw [HR.out]; try rfl, hbwz⟩
                exact AllReadyH.nil
              exact AllReadyH.nil
            exact AllReadyH.nil
          exact AllReadyH.nil
        refine AllReadyH.cons rfl (fun K hK => ?_) ?_
        · go_simp
          (first | (go_at_call 22; (with_reducible refine (K1.out _ hq0.drew).mono ?_); rintro e1 w1 ⟨b, o, rfl, hoc, hq1, hk1'⟩) | (go_at_call 22; (with_reducible refine (K1.out _ hq3).mono ?_); rintro e1 w1 ⟨b, o, rfl, hoc, hqe, hk1'⟩) | (go_at_call 10; (with_reducible refine (K2.out _ hq0.drew).mono ?_); rintro e3 w3 ⟨rfl, hq3, hk3'⟩) | (go_at_call 10; (with_reducible refine (K2.out _ hq1).mono ?_); rintro e3 w3 ⟨rfl, hqe, hk3'⟩; have hoc3 := Below.cell_of hk3' hoc))
          try go_wp2_with fail
          refine hK.out _ _ ?_ (fun hHeld => ?_)
          · ((try dsimp only); (first | exact HS.out _ hq0.drew | exact HS.out _ hq0 | exact HS.out _ hq1 | exact HS.out _ hq3 | exact HS.out _ hqe))
          clear hK K
          try simp only [List.getElem_toArray, List.getElem_cons_succ, List.getElem_cons_zero, Act.put, List.setIfInBounds_toArray, List.set_cons_zero, List.set_cons_succ]
          refine wpAnyH_ready (rs := [8]) (by kernel_rfl) (by simp) ?_
          refine AllReadyH.cons rfl (fun K hK => ?_) ?_
          · go_simp
            try go_wp2_with fail
            refine hK.out _ _ ?_ (fun hHeld => ?_)
            · ((try dsimp only); (first | exact HS.out _ hq0.drew | exact HS.out _ hq0 | exact HS.out _ hq1 | exact HS.out _ hq3 | exact HS.out _ hqe))
            clear hK K
            try simp only [List.getElem_toArray, List.getElem_cons_succ, List.getElem_cons_zero, Act.put, List.setIfInBounds_toArray, List.set_cons_zero, List.set_cons_succ]
            refine wpAnyH_ready (rs := [9]) (by kernel_rfl) (by simp) ?_
            refine AllReadyH.cons rfl (fun K hK => ?_) ?_
            · go_simp
              try go_wp2_with fail
              refine hK.out _ _ ?_ (fun hHeld => ?_)
              · ((try dsimp only); (first | exact HS.out _ hq0.drew | exact HS.out _ hq0 | exact HS.out _ hq1 | exact HS.out _ hq3 | exact HS.out _ hqe))
              clear hK K
              try simp only [List.getElem_toArray, List.getElem_cons_succ, List.getElem_cons_zero, Act.put, List.setIfInBounds_toArray, List.set_cons_zero, List.set_cons_succ]
              refine wpAnyH_ready (rs := [15]) (by kernel_rfl) (by simp) ?_
              refine AllReadyH.cons rfl (fun K hK => ?_) ?_
              · go_simp
                try go_wp2_with fail
                refine hK.out _ _ ?_ (fun hHeld => ?_)
                · ((try dsimp only); (first | exact HS.out _ hq0.drew | exact HS.out _ hq0 | exact HS.out _ hq1 | exact HS.out _ hq3 | exact HS.out _ hqe))
                clear hK K
                try simp only [List.getElem_toArray, List.getElem_cons_succ, List.getElem_cons_zero, Act.put, List.setIfInBounds_toArray, List.set_cons_zero, List.set_cons_succ]
                refine wpAnyH_ready (rs := [16]) (by kernel_rfl) (by simp) ?_
                refine AllReadyH.cons rfl (fun K hK => ?_) ?_
                · go_simp
                  try go_wp2_with fail
                  refine hK.out _ _ ?_ (fun hHeld => ?_)
                  · ((try dsimp only); (first | exact HS.out _ hq0.drew | exact HS.out _ hq0 | exact HS.out _ hq1 | exact HS.out _ hq3 | exact HS.out _ hqe))
                  clear hK K
                  try simp only [List.getElem_toArray, List.getElem_cons_succ, List.getElem_cons_zero, Act.put, List.setIfInBounds_toArray, List.set_cons_zero, List.set_cons_succ]
                  refine wpAnyH_take (i := 17) (v := ?v12) rfl (by kernel_rfl) (by kernel_rfl) (by kernel_rfl) (fun _ _ _ h => h) (Or.inl ⟨by rfl, ?y12⟩) (by assumption) ?r12
                  case y12 => (intro w hSw; (try dsimp only at hSw); go_simp; try with_reducible rfl)
                  try simp only [List.getElem_toArray, List.getElem_cons_succ, List.getElem_cons_zero, Act.put, List.setIfInBounds_toArray, List.set_cons_zero, List.set_cons_succ]
                  refine wpAnyH_done (by kernel_rfl) ?_ _
                  refine NoPanic.normal ?_
                  have hbwz := hbw.trans (hqe.mono hbw.size)
                  clear HS K1 K2
                  go_wp2_with fail
                  go_ret
                  exact ⟨by rw [HR.out]; try rfl, hbwz⟩
                exact AllReadyH.nil
              exact AllReadyH.nil
            exact AllReadyH.nil
          exact AllReadyH.nil
        exact AllReadyH.nil
      refine AllReadyH.cons rfl (fun K hK => ?_) ?_
      · go_simp
        (first | (go_at_call 22; (with_reducible refine (K1.out _ hq0.drew).mono ?_); rintro e1 w1 ⟨b, o, rfl, hoc, hq1, hk1'⟩) | (go_at_call 22; (with_reducible refine (K1.out _ hq3).mono ?_); rintro e1 w1 ⟨b, o, rfl, hoc, hqe, hk1'⟩) | (go_at_call 10; (with_reducible refine (K2.out _ hq0.drew).mono ?_); rintro e3 w3 ⟨rfl, hq3, hk3'⟩) | (go_at_call 10; (with_reducible refine (K2.out _ hq1).mono ?_); rintro e3 w3 ⟨rfl, hqe, hk3'⟩; have hoc3 := Below.cell_of hk3' hoc))
        try go_wp2_with fail
        refine hK.out _ _ ?_ (fun hHeld => ?_)
        · ((try dsimp only); (first | exact HS.out _ hq0.drew | exact HS.out _ hq0 | exact HS.out _ hq1 | exact HS.out _ hq3 | exact HS.out _ hqe))
        clear hK K
        try simp only [List.getElem_toArray, List.getElem_cons_succ, List.getElem_cons_zero, Act.put, List.setIfInBounds_toArray, List.set_cons_zero, List.set_cons_succ]
        refine wpAnyH_ready (rs := [5]) (by kernel_rfl) (by simp) ?_
        refine AllReadyH.cons rfl (fun K hK => ?_) ?_
        · go_simp
          try go_wp2_with fail
          refine hK.out _ _ ?_ (fun hHeld => ?_)
          · ((try dsimp only); (first | exact HS.out _ hq0.drew | exact HS.out _ hq0 | exact HS.out _ hq1 | exact HS.out _ hq3 | exact HS.out _ hqe))
          clear hK K
          try simp only [List.getElem_toArray, List.getElem_cons_succ, List.getElem_cons_zero, Act.put, List.setIfInBounds_toArray, List.set_cons_zero, List.set_cons_succ]
          refine wpAnyH_ready (rs := [8]) (by kernel_rfl) (by simp) ?_
          refine AllReadyH.cons rfl (fun K hK => ?_) ?_
          · go_simp
            try go_wp2_with fail
            refine hK.out _ _ ?_ (fun hHeld => ?_)
            · ((try dsimp only); (first | exact HS.out _ hq0.drew | exact HS.out _ hq0 | exact HS.out _ hq1 | exact HS.out _ hq3 | exact HS.out _ hqe))
            clear hK K
            try simp only [List.getElem_toArray, List.getElem_cons_succ, List.getElem_cons_zero, Act.put, List.setIfInBounds_toArray, List.set_cons_zero, List.set_cons_succ]
            refine wpAnyH_ready (rs := [9]) (by kernel_rfl) (by simp) ?_
            refine AllReadyH.cons rfl (fun K hK => ?_) ?_
            · go_simp
              try go_wp2_with fail
              refine hK.out _ _ ?_ (fun hHeld => ?_)
              · ((try dsimp only); (first | exact HS.out _ hq0.drew | exact HS.out _ hq0 | exact HS.out _ hq1 | exact HS.out _ hq3 | exact HS.out _ hqe))
              clear hK K
              try simp only [List.getElem_toArray, List.getElem_cons_succ, List.getElem_cons_zero, Act.put, List.setIfInBounds_toArray, List.set_cons_zero, List.set_cons_succ]
              refine wpAnyH_ready (rs := [15]) (by kernel_rfl) (by simp) ?_
              refine AllReadyH.cons rfl (fun K hK => ?_) ?_
              · go_simp
                try go_wp2_with fail
                refine hK.out _ _ ?_ (fun hHeld => ?_)
                · ((try dsimp only); (first | exact HS.out _ hq0.drew | exact HS.out _ hq0 | exact HS.out _ hq1 | exact HS.out _ hq3 | exact HS.out _ hqe))
                clear hK K
                try simp only [List.getElem_toArray, List.getElem_cons_succ, List.getElem_cons_zero, Act.put, List.setIfInBounds_toArray, List.set_cons_zero, List.set_cons_succ]
                refine wpAnyH_ready (rs := [16]) (by kernel_rfl) (by simp) ?_
                refine AllReadyH.cons rfl (fun K hK => ?_) ?_
                · go_simp
                  try go_wp2_with fail
                  refine hK.out _ _ ?_ (fun hHeld => ?_)
                  · ((try dsimp only); (first | exact HS.out _ hq0.drew | exact HS.out _ hq0 | exact HS.out _ hq1 | exact HS.out _ hq3 | exact HS.out _ hqe))
                  clear hK K
                  try simp only [List.getElem_toArray, List.getElem_cons_succ, List.getElem_cons_zero, Act.put, List.setIfInBounds_toArray, List.set_cons_zero, List.set_cons_succ]
                  refine wpAnyH_take (i := 17) (v := ?v13) rfl (by kernel_rfl) (by kernel_rfl) (by kernel_rfl) (fun _ _ _ h => h) (Or.inl ⟨by rfl, ?y13⟩) (by assumption) ?r13
                  case y13 => (intro w hSw; (try dsimp only at hSw); go_simp; try with_reducible rfl)
                  try simp only [List.getElem_toArray, List.getElem_cons_succ, List.getElem_cons_zero, Act.put, List.setIfInBounds_toArray, List.set_cons_zero, List.set_cons_succ]
                  refine wpAnyH_done (by kernel_rfl) ?_ _
                  refine NoPanic.normal ?_
                  have hbwz := hbw.trans (hqe.mono hbw.size)
                  clear HS K1 K2
                  go_wp2_with fail
                  go_ret
                  exact ⟨by rw [HR.out]; try rfl, hbwz⟩
                exact AllReadyH.nil
              exact AllReadyH.nil
            exact AllReadyH.nil
          exact AllReadyH.nil
        exact AllReadyH.nil
      exact AllReadyH.nil
    refine AllReadyH.cons rfl (fun K hK => ?_) ?_
    · go_simp
      (first | (go_at_call 22; (with_reducible refine (K1.out _ hq0.drew).mono ?_); rintro e1 w1 ⟨b, o, rfl, hoc, hq1, hk1'⟩) | (go_at_call 22; (with_reducible refine (K1.out _ hq3).mono ?_); rintro e1 w1 ⟨b, o, rfl, hoc, hqe, hk1'⟩) | (go_at_call 10; (with_reducible refine (K2.out _ hq0.drew).mono ?_); rintro e3 w3 ⟨rfl, hq3, hk3'⟩) | (go_at_call 10; (with_reducible refine (K2.out _ hq1).mono ?_); rintro e3 w3 ⟨rfl, hqe, hk3'⟩; have hoc3 := Below.cell_of hk3' hoc))
      try go_wp2_with fail
      refine hK.out _ _ ?_ (fun hHeld => ?_)
      · ((try dsimp only); (first | exact HS.out _ hq0.drew | exact HS.out _ hq0 | exact HS.out _ hq1 | exact HS.out _ hq3 | exact HS.out _ hqe))
      clear hK K
      try simp only [List.getElem_toArray, List.getElem_cons_succ, List.getElem_cons_zero, Act.put, List.setIfInBounds_toArray, List.set_cons_zero, List.set_cons_succ]
      refine wpAnyH_ready (rs := [4]) (by kernel_rfl) (by simp) ?_
      refine AllReadyH.cons rfl (fun K hK => ?_) ?_
      · go_simp
        try go_wp2_with fail
        refine hK.out _ _ ?_ (fun hHeld => ?_)
        · ((try dsimp only); (first | exact HS.out _ hq0.drew | exact HS.out _ hq0 | exact HS.out _ hq1 | exact HS.out _ hq3 | exact HS.out _ hqe))
        clear hK K
        try simp only [List.getElem_toArray, List.getElem_cons_succ, List.getElem_cons_zero, Act.put, List.setIfInBounds_toArray, List.set_cons_zero, List.set_cons_succ]
        refine wpAnyH_ready (rs := [5]) (by kernel_rfl) (by simp) ?_
        refine AllReadyH.cons rfl (fun K hK => ?_) ?_
        · go_simp
          try go_wp2_with fail
          refine hK.out _ _ ?_ (fun hHeld => ?_)
          · ((try dsimp only); (first | exact HS.out _ hq0.drew | exact HS.out _ hq0 | exact HS.out _ hq1 | exact HS.out _ hq3 | exact HS.out _ hqe))
          clear hK K
          try simp only [List.getElem_toArray, List.getElem_cons_succ, List.getElem_cons_zero, Act.put, List.setIfInBounds_toArray, List.set_cons_zero, List.set_cons_succ]
          refine wpAnyH_ready (rs := [8]) (by kernel_rfl) (by simp) ?_
          refine AllReadyH.cons rfl (fun K hK => ?_) ?_
          · go_simp
            try go_wp2_with fail
            refine hK.out _ _ ?_ (fun hHeld => ?_)
            · ((try dsimp only); (first | exact HS.out _ hq0.drew | exact HS.out _ hq0 | exact HS.out _ hq1 | exact HS.out _ hq3 | exact HS.out _ hqe))
            clear hK K
            try simp only [List.getElem_toArray, List.getElem_cons_succ, List.getElem_cons_zero, Act.put, List.setIfInBounds_toArray, List.set_cons_zero, List.set_cons_succ]
            refine wpAnyH_ready (rs := [9]) (by kernel_rfl) (by simp) ?_
            refine AllReadyH.cons rfl (fun K hK => ?_) ?_
            · go_simp
              try go_wp2_with fail
              refine hK.out _ _ ?_ (fun hHeld => ?_)
              · ((try dsimp only); (first | exact HS.out _ hq0.drew | exact HS.out _ hq0 | exact HS.out _ hq1 | exact HS.out _ hq3 | exact HS.out _ hqe))
              clear hK K
              try simp only [List.getElem_toArray, List.getElem_cons_succ, List.getElem_cons_zero, Act.put, List.setIfInBounds_toArray, List.set_cons_zero, List.set_cons_succ]
              refine wpAnyH_ready (rs := [15]) (by kernel_rfl) (by simp) ?_
              refine AllReadyH.cons rfl (fun K hK => ?_) ?_
              · go_simp
                try go_wp2_with fail
                refine hK.out _ _ ?_ (fun hHeld => ?_)
                · ((try dsimp only); (first | exact HS.out _ hq0.drew | exact HS.out _ hq0 | exact HS.out _ hq1 | exact HS.out _ hq3 | exact HS.out _ hqe))
                clear hK K
                try simp only [List.getElem_toArray, List.getElem_cons_succ, List.getElem_cons_zero, Act.put, List.setIfInBounds_toArray, List.set_cons_zero, List.set_cons_succ]
                refine wpAnyH_ready (rs := [16]) (by kernel_rfl) (by simp) ?_
                refine AllReadyH.cons rfl (fun K hK => ?_) ?_
                · go_simp
                  try go_wp2_with fail
                  refine hK.out _ _ ?_ (fun hHeld => ?_)
                  · ((try dsimp only); (first | exact HS.out _ hq0.drew | exact HS.out _ hq0 | exact HS.out _ hq1 | exact HS.out _ hq3 | exact HS.out _ hqe))
                  clear hK K
                  try simp only [List.getElem_toArray, List.getElem_cons_succ, List.getElem_cons_zero, Act.put, List.setIfInBounds_toArray, List.set_cons_zero, List.set_cons_succ]
                  refine wpAnyH_take (i := 17) (v := ?v14) rfl (by kernel_rfl) (by kernel_rfl) (by kernel_rfl) (fun _ _ _ h => h) (Or.inl ⟨by rfl, ?y14⟩) (by assumption) ?r14
                  case y14 => (intro w hSw; (try dsimp only at hSw); go_simp; try with_reducible rfl)
                  try simp only [List.getElem_toArray, List.getElem_cons_succ, List.getElem_cons_zero, Act.put, List.setIfInBounds_toArray, List.set_cons_zero, List.set_cons_succ]
                  refine wpAnyH_done (by kernel_rfl) ?_ _
                  refine NoPanic.normal ?_
                  have hbwz := hbw.trans (hqe.mono hbw.size)
                  clear HS K1 K2
                  go_wp2_with fail
                  go_ret
                  exact ⟨by rw [HR.out]; try rfl, hbwz⟩
                exact AllReadyH.nil
              exact AllReadyH.nil
            exact AllReadyH.nil
          exact AllReadyH.nil
        exact AllReadyH.nil
      exact AllReadyH.nil
    exact AllReadyH.nil
  exact AllReadyH.nil
theorem text_any (e : Ex) : e.fault = 0 → e.parts ≤ 900000 → TextSpec 10 e := by
  induction e using Ex.ind with
  | h e ih =>
    intro hf hp B cs w hx hB htab hm
    have hpe := parts_eq e
    have hI : ∀ a ∈ e.ar, TextSpec 10 a := fun a ha => ih a ha (fault_arg hf a ha) (by have := partsL_mem ha; omega)
    have hle : ∀ a ∈ e.ar, a.text.length + 100 ≤ 1000 * a.parts := fun a ha => text_le a (fault_arg hf a ha)
    have h9 : ∀ a ∈ e.ar, a.text.length ≤ 1000000000 := fun a ha => by have := hle a ha; have := partsL_mem ha; omega
    have hj : ∀ l, ((insL l e.ar).map List.length).sum + 98 * e.ar.length ≤ 999999000 := fun l => by have := (ins_le l hle).1; omega
    have hla : e.ar.length ≤ 999999 := by have := len_parts e.ar; omega
    have hP := fault_part hf
    have P := partOk hP
    have hk := P.k
    by_cases k1 : e.k = 1
    · exact text_1 e k1 hI h9 hj hla hP B cs w hx hB htab hm
    by_cases k2 : e.k = 2
    · exact text_2 e k2 hI h9 hj hla hP B cs w hx hB htab hm
    by_cases k3 : e.k = 3
    · exact text_3 e k3 hI h9 hj hla hP B cs w hx hB htab hm
    by_cases k5 : e.k = 5
    · exact text_over e k5 hI h9 hj hla hP B cs w hx hB htab hm
    have k4 : e.k = 4 := by omega
    have hop := P.op4 k4
    by_cases o1 : e.op = 1
    · exact text_not e k4 o1 hI h9 hj hla hP B cs w hx hB htab hm
    by_cases o2 : e.op = 2
    · exact text_and e k4 o2 hI h9 hj hla hP B cs w hx hB htab hm
    by_cases o3 : e.op = 3
    · exact text_or e k4 o3 hI h9 hj hla hP B cs w hx hB htab hm
    by_cases o4 : 4 ≤ e.op ∧ e.op ≤ 11
    · exact text_cmp e k4 o4 hI h9 hj hla hP B cs w hx hB htab hm
    by_cases o5 : e.op = 15 ∨ e.op = 16
    · exact text_sum e k4 o5 hI h9 hj hla hP B cs w hx hB htab hm
    by_cases o6 : e.op = 17 ∨ e.op = 18 ∨ e.op = 19
    · exact text_prod e k4 o6 hI h9 hj hla hP B cs w hx hB htab hm
    by_cases o7 : e.op = 20
    · exact text_neg e k4 o7 hI h9 hj hla hP B cs w hx hB htab hm
    exact text_fun e k4 (by omega) hI h9 hj hla hP B cs w hx hB htab hm
/-- Print: the text and the fault -/
noncomputable def printF (e : Ex) : List UInt8 × Int := if checkE e ≠ 0 then ([], checkE e) else if 4000 < e.text.length then ([], 2) else (e.text, 0)
theorem check_ok {e : Ex} (h : checkE e = 0) : e.fault = 0 ∧ e.parts ≤ 300 := by
  unfold checkE at h
  by_cases c : 300 < e.parts ∨ 20 < e.depth
  · rw [if_pos c] at h; exact absurd h (by decide)
  · rw [if_neg c] at h; exact ⟨h, by omega⟩
set_option maxHeartbeats 2000000 in
theorem Print_any (e : Ex) (B : Nat) (cs : List Value) (w : World) (hx : ExAt w B e cs) (hB : B ≤ w.heap.size) (hp : e.parts ≤ 100000000) (htab : Tab w) (hm : Mx w) :
    Calls Tryz.prog 5 #[.agg cs.toArray] w fun en w' => en = .returned (.tuple #[.string (tx (printF e).1), .int .i64 (printF e).2]) ∧ Below w.heap.size w w' := by
  have HX := Lib.hid hx
  have HTM := Lib.hid (fun w' (hb : Below w.heap.size w w') => And.intro (tabIs_below htab hb) (hm.below hb))
  obtain ⟨R, hR⟩ : ∃ R, printF e = R := ⟨_, rfl⟩
  obtain ⟨R1, R2⟩ := R
  rw [hR]
  obtain ⟨hn, hs, hl, ha, hx, hr, hi⟩ := hx
  rename_i A1 c1 A2 c2 cs
  have HXX := Lib.hid (fun w' (hb : Below w.heap.size w w') => HX.out.keep (hb.mono hB))
  have HP := Lib.hid hp
  clear hx hr hi htab hm hp
  obtain ⟨f, hf⟩ : ∃ f, checkE e = f := ⟨_, rfl⟩
  show Calls Tryz.prog 5 #[.agg #[.int .i64 e.k, .int .i64 e.op, .string e.nm, .int .i64 e.v.k, .int .i64 e.v.n, .string e.v.s, .slice A1 e.v.l.length c1, .slice A2 e.ar.length c2]] w _
  by_cases f0 : f = 0
  rotate_left
  · have bf : (f != 0) = true := by simpa using f0
    have HR := Lib.hid (show ([], f) = (R1, R2) by rw [← hR]; unfold printF; rw [if_pos (by rw [hf]; exact f0), hf])
    have HF := Lib.hid hf
    clear hR hf f0
    go_enter Tryz.func5, Tryz.ntmps5
    go_upto_region 1 with (fail)
    obtain ⟨W, hW⟩ : ∃ W, W = (w.alloc (.cells #[.int .i64 e.k, .int .i64 e.op, .string e.nm, .int .i64 e.v.k, .int .i64 e.v.n, .string e.v.s, .slice A1 e.v.l.length c1, .slice A2 e.ar.length c2] 27 (0, 0))) := ⟨_, rfl⟩
    have hbw : Below w.heap.size w W := by rw [hW]; exact ((Below.refl _ w).alloc (Nat.le_refl _) _)
    have B0 : Blk W (w.heap.size) 27 #[.int .i64 e.k, .int .i64 e.op, .string e.nm, .int .i64 e.v.k, .int .i64 e.v.n, .string e.v.s, .slice A1 e.v.l.length c1, .slice A2 e.ar.length c2] := by
      rw [hW]
      have := Blk.new w 27 #[.int .i64 e.k, .int .i64 e.op, .string e.nm, .int .i64 e.v.k, .int .i64 e.v.n, .string e.v.s, .slice A1 e.v.l.length c1, .slice A2 e.ar.length c2]
      exact this
    have hsz : W.heap.size = w.heap.size + 1 := by rw [hW]; simp
    rw [← hW]
    have ec0 : W.cell? ⟨w.heap.size, 0, none⟩ = some (.int .i64 e.k) := B0.cell 0
    have ec1 : W.cell? ⟨w.heap.size, 1, none⟩ = some (.int .i64 e.op) := B0.cell 1
    have ec2 : W.cell? ⟨w.heap.size, 2, none⟩ = some (.string e.nm) := B0.cell 2
    have ec3 : W.cell? ⟨w.heap.size, 3, none⟩ = some (.int .i64 e.v.k) := B0.cell 3
    have ec4 : W.cell? ⟨w.heap.size, 4, none⟩ = some (.int .i64 e.v.n) := B0.cell 4
    have ec5 : W.cell? ⟨w.heap.size, 5, none⟩ = some (.string e.v.s) := B0.cell 5
    have ec6 : W.cell? ⟨w.heap.size, 6, none⟩ = some (.slice A1 e.v.l.length c1) := B0.cell 6
    have ec7 : W.cell? ⟨w.heap.size, 7, none⟩ = some (.slice A2 e.ar.length c2) := B0.cell 7
    clear hW hsz B0
    go_wp2_with fail
    refine (CheckExpr_any e B _ W (HXX.out W hbw) (Nat.le_trans hB hbw.size) HP.out).mono ?_
    rw [HF.out]
    rintro en W2 ⟨rfl, hb2⟩
    clear ec0 ec1 ec2 ec3 ec4 ec5 ec6 ec7
    go_wp2_with fail
    go_ret2
    exact ⟨by have h := HR.out; injection h with h1 h2; rw [← h1, ← h2]; rfl, hbw.trans (hb2.mono hbw.size)⟩
  subst f0
  obtain ⟨ht, hp⟩ := check_ok hf
  have hle := text_le e ht
  obtain ⟨t, htt⟩ : ∃ t, tx e.text = t := ⟨_, rfl⟩
  have hts : t.size = e.text.length := by rw [← htt, tx_size]
  have HT := Lib.hid (fun w' (hb : Below w.heap.size w w') => text_any e ht (by omega) B _ w' (HXX.out w' hb) (Nat.le_trans hB hb.size) (HTM.out w' hb).1 (HTM.out w' hb).2)
  simp only [htt] at HT
  have HR := Lib.hid (show (if 4000 < t.size then (([] : List UInt8), (2 : Int)) else (e.text, 0)) = (R1, R2) by rw [← hR, hts]; unfold printF; rw [if_neg (show ¬ checkE e ≠ 0 by rw [hf]; decide)])
  have HTT := Lib.hid htt
  have HF := Lib.hid hf
  have st : t.size ≤ 300000 := by omega
  clear hR hf htt hts hle ht hp
  go_enter Tryz.func5, Tryz.ntmps5
  go_upto_region 1 with (fail)
  obtain ⟨W, hW⟩ : ∃ W, W = (w.alloc (.cells #[.int .i64 e.k, .int .i64 e.op, .string e.nm, .int .i64 e.v.k, .int .i64 e.v.n, .string e.v.s, .slice A1 e.v.l.length c1, .slice A2 e.ar.length c2] 27 (0, 0))) := ⟨_, rfl⟩
  have hbw : Below w.heap.size w W := by rw [hW]; exact ((Below.refl _ w).alloc (Nat.le_refl _) _)
  have B0 : Blk W (w.heap.size) 27 #[.int .i64 e.k, .int .i64 e.op, .string e.nm, .int .i64 e.v.k, .int .i64 e.v.n, .string e.v.s, .slice A1 e.v.l.length c1, .slice A2 e.ar.length c2] := by
    rw [hW]
    have := Blk.new w 27 #[.int .i64 e.k, .int .i64 e.op, .string e.nm, .int .i64 e.v.k, .int .i64 e.v.n, .string e.v.s, .slice A1 e.v.l.length c1, .slice A2 e.ar.length c2]
    exact this
  have hsz : W.heap.size = w.heap.size + 1 := by rw [hW]; simp
  rw [← hW]
  have ec0 : W.cell? ⟨w.heap.size, 0, none⟩ = some (.int .i64 e.k) := B0.cell 0
  have ec1 : W.cell? ⟨w.heap.size, 1, none⟩ = some (.int .i64 e.op) := B0.cell 1
  have ec2 : W.cell? ⟨w.heap.size, 2, none⟩ = some (.string e.nm) := B0.cell 2
  have ec3 : W.cell? ⟨w.heap.size, 3, none⟩ = some (.int .i64 e.v.k) := B0.cell 3
  have ec4 : W.cell? ⟨w.heap.size, 4, none⟩ = some (.int .i64 e.v.n) := B0.cell 4
  have ec5 : W.cell? ⟨w.heap.size, 5, none⟩ = some (.string e.v.s) := B0.cell 5
  have ec6 : W.cell? ⟨w.heap.size, 6, none⟩ = some (.slice A1 e.v.l.length c1) := B0.cell 6
  have ec7 : W.cell? ⟨w.heap.size, 7, none⟩ = some (.slice A2 e.ar.length c2) := B0.cell 7
  clear hW hsz
  go_wp2_with fail
  refine (CheckExpr_any e B _ W (HXX.out W hbw) (Nat.le_trans hB hbw.size) HP.out).mono ?_
  rw [HF.out]
  rintro en W1 ⟨rfl, hb1⟩
  have hbw1 := hbw.trans (hb1.mono hbw.size)
  have B0 := B0.below hb1 B0.lt
  clear ec0 ec1 ec2 ec3 ec4 ec5 ec6 ec7 hb1
  have ec0 : W1.cell? ⟨w.heap.size, 0, none⟩ = some (.int .i64 e.k) := B0.cell 0
  have ec1 : W1.cell? ⟨w.heap.size, 1, none⟩ = some (.int .i64 e.op) := B0.cell 1
  have ec2 : W1.cell? ⟨w.heap.size, 2, none⟩ = some (.string e.nm) := B0.cell 2
  have ec3 : W1.cell? ⟨w.heap.size, 3, none⟩ = some (.int .i64 e.v.k) := B0.cell 3
  have ec4 : W1.cell? ⟨w.heap.size, 4, none⟩ = some (.int .i64 e.v.n) := B0.cell 4
  have ec5 : W1.cell? ⟨w.heap.size, 5, none⟩ = some (.string e.v.s) := B0.cell 5
  have ec6 : W1.cell? ⟨w.heap.size, 6, none⟩ = some (.slice A1 e.v.l.length c1) := B0.cell 6
  have ec7 : W1.cell? ⟨w.heap.size, 7, none⟩ = some (.slice A2 e.ar.length c2) := B0.cell 7
  clear B0
  go_wp2_with fail
  refine (HT.out W1 hbw1).mono ?_
  rintro en W2 ⟨rfl, hb2⟩
  clear ec0 ec1 ec2 ec3 ec4 ec5 ec6 ec7
  have hbz := hbw1.trans (hb2.mono hbw1.size)
  by_cases c : 4000 < t.size
  · have c' : (4000 : Int) < (t.size : Nat) := by omega
    have HR2 := Lib.hid (show (([] : List UInt8), (2 : Int)) = (R1, R2) by rw [← HR.out, if_pos c])
    clear c
    go_wp2_with fail
    go_ret2
    exact ⟨by have h := HR2.out; injection h with h1 h2; rw [← h1, ← h2]; rfl, hbz⟩
  · have c' : ¬ (4000 : Int) < (t.size : Nat) := by omega
    have HR2 := Lib.hid (show (e.text, (0 : Int)) = (R1, R2) by rw [← HR.out, if_neg c])
    clear c
    go_wp2_with fail
    go_ret2
    exact ⟨by have h := HR2.out; injection h with h1 h2; rw [← h1, ← h2, HTT.out]; try rfl, hbz⟩
end Go.Proofs.YtobanldeicclmaaGreatDoor
