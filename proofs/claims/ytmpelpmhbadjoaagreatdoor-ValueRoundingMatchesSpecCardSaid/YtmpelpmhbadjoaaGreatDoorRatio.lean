/- The walk of fraction.ratio: lowest terms, their texts, the limit. -/
import Derived.Test.YtmpelpmhbadjoaaGreatDoorFrac
namespace Go.Proofs.YtmpelpmhbadjoaaGreatDoor
open Go.RowKit Limb Dig

theorem blk2_set0 {w : World} {b T : Nat} {a0 a1 u : Value} (h : w.heap[b]? = some (.cells #[a0, a1] T (0, 0))) : (w.setCell ⟨b, 0, none⟩ u).heap[b]? = some (.cells #[u, a1] T (0, 0)) := by
  simp [World.setCell, Array.getElem?_modify, h]
theorem blk2_set1 {w : World} {b T : Nat} {a0 a1 u : Value} (h : w.heap[b]? = some (.cells #[a0, a1] T (0, 0))) : (w.setCell ⟨b, 1, none⟩ u).heap[b]? = some (.cells #[a0, u] T (0, 0)) := by
  simp [World.setCell, Array.getElem?_modify, h]
def numT (neg : Bool) (x y : Nat) : List UInt8 := (if neg && decide (0 < x) then [45] else []) ++ decS (x / Nat.gcd x y)
def denT (x y : Nat) : List UInt8 := decS (y / Nat.gcd x y)
def bigT (x y : Nat) : Prop := 2000 < (decS (x / Nat.gcd x y)).length ∨ 2000 < (denT x y).length
instance (x y : Nat) : Decidable (bigT x y) := by unfold bigT; infer_instance
def ratioE (neg : Bool) (x y : Nat) : Value := if bigT x y then .tuple #[.agg #[.string ⟨#[]⟩, .string ⟨#[]⟩], .int .i64 2] else .tuple #[.agg #[.string ⟨(numT neg x y).toArray⟩, .string ⟨(denT x y).toArray⟩], .int .i64 0]
set_option maxHeartbeats 1000000 in
set_option maxRecDepth 100000 in
theorem ratio_any (w : World) (L x y : Nat) (v : Value) (neg : Bool) (h : Frac w L v neg x y) (hL : L ≤ 100000) (htab : Tab w) :
    Calls Tryz.prog 25 #[v] w fun e w' => e = .returned (ratioE neg x y) ∧ Below w.heap.size w w' := by
  have HF := Lib.hid h
  have HT := Lib.hid htab
  obtain ⟨vn, vd, rfl, hn, hd, hy⟩ := h.ex
  obtain ⟨An, ln, cn, rfl, hn1, hn2⟩ := hn.form
  obtain ⟨Ad, ld, cd, rfl, hd1, hd2⟩ := hd.form
  clear hn hd h hn1 hd1 htab
  go_enter Tryz.func25, Tryz.ntmps25
  obtain ⟨W, hW⟩ : ∃ W, W = (w.alloc (.cells #[.bool neg, .slice An ln cn, .slice Ad ld cd] 47 (0, 0))).alloc (.cells #[.string ⟨#[]⟩, .string ⟨#[]⟩] 23 (0, 0)) := ⟨_, rfl⟩
  have B0 : W.heap[w.heap.size]? = some (.cells #[.bool neg, .slice An ln cn, .slice Ad ld cd] 47 (0, 0)) := by
    rw [hW, Below.heap_alloc _ _ _ (by simp)]
    show (w.heap.push _)[w.heap.size]? = _
    rw [Array.getElem?_push, if_pos rfl]
  have B1 : W.heap[w.heap.size + 1]? = some (.cells #[.string ⟨#[]⟩, .string ⟨#[]⟩] 23 (0, 0)) := by
    rw [hW]
    show ((w.heap.push _).push _)[w.heap.size + 1]? = _
    rw [Array.getElem?_push, if_pos (by simp)]
  have hsz : W.heap.size = w.heap.size + 2 := by rw [hW]; simp
  have hb : Below w.heap.size w W := by rw [hW]; exact ((Below.refl _ w).alloc (Nat.le_refl _) _).alloc (by simp) _
  have HW := Lib.hid hW
  clear hW
  have HF2 := Lib.hid (show Frac W L (.agg #[.bool neg, .slice An ln cn, .slice Ad ld cd]) neg x y by
    obtain ⟨n', d', e, h1, h2, h3⟩ := HF.out.ex
    exact ⟨⟨n', d', e, h1.below hb, h2.below hb, h3⟩⟩)
  go_wp2_with fail
  rw [← HW.out]
  refine (lowest_any W L x y _ neg HF2.out hL).mono ?_
  rintro e w1 ⟨⟨r, rfl, hr⟩, hb1⟩
  obtain ⟨n', d', rfl, hn', hd', hy'⟩ := hr.ex
  have HN := Lib.hid hn'
  have HD := Lib.hid hd'
  obtain ⟨An', ln', cn', rfl, hn1', hn2'⟩ := hn'.form
  obtain ⟨Ad', ld', cd', rfl, hd1', hd2'⟩ := hd'.form
  clear hn' hd' hr hn1' hd1'
  have B0 := (hb1.block _ (by omega)).trans B0
  have B1 := (hb1.block _ (by omega)).trans B1
  have hs1 := hb1.size
  have hbw1 := hb.trans (hb1.mono (by omega))
  obtain ⟨ng, eng⟩ : ∃ ng, (neg && decide (0 < x)) = ng := ⟨_, rfl⟩
  rw [eng]
  have HNG := Lib.hid eng
  clear eng
  have c0 : w1.cell? ⟨w.heap.size, 0, none⟩ = some (.bool neg) := by rw [Lib.cell_of_heap B0]; rfl
  have c1 : w1.cell? ⟨w.heap.size, 1, none⟩ = some (.slice An ln cn) := by rw [Lib.cell_of_heap B0]; rfl
  have c2 : w1.cell? ⟨w.heap.size, 2, none⟩ = some (.slice Ad ld cd) := by rw [Lib.cell_of_heap B0]; rfl
  have f0 : w1.frozen? ⟨w.heap.size, 0, none⟩ = false := Lib.frozen_of_heap B0 0
  have f1 : w1.frozen? ⟨w.heap.size, 1, none⟩ = false := Lib.frozen_of_heap B0 1
  have f2 : w1.frozen? ⟨w.heap.size, 2, none⟩ = false := Lib.frozen_of_heap B0 2
  go_upto_region 2 with (fail)
  obtain ⟨W5, hW5⟩ : ∃ W5, W5 = ((w1.setCell ⟨w.heap.size, 0, none⟩ (.bool ng)).setCell ⟨w.heap.size, 1, none⟩ (.slice An' ln' cn')).setCell ⟨w.heap.size, 2, none⟩ (.slice Ad' ld' cd') := ⟨_, rfl⟩
  have e1 : (w1.setCell ⟨w.heap.size, 0, none⟩ (.bool ng)).cell? ⟨w.heap.size, 1, none⟩ = some (.slice An ln cn) := by rw [Lib.cell_of_heap (blk_set0 B0)]; rfl
  have e2 : ((w1.setCell ⟨w.heap.size, 0, none⟩ (.bool ng)).setCell ⟨w.heap.size, 1, none⟩ (.slice An' ln' cn')).cell? ⟨w.heap.size, 2, none⟩ = some (.slice Ad ld cd) := by rw [Lib.cell_of_heap (blk_set1 (blk_set0 B0))]; rfl
  have HN5 := Lib.hid (hW5 ▸ ((HN.out.box c0 (.bool ng)).box e1 (.slice An' ln' cn')).box e2 (.slice Ad' ld' cd') : Rep W5 L (.slice An' ln' cn') (x / Nat.gcd x y))
  have HD5 := Lib.hid (hW5 ▸ ((HD.out.box c0 (.bool ng)).box e1 (.slice An' ln' cn')).box e2 (.slice Ad' ld' cd') : Rep W5 L (.slice Ad' ld' cd') (y / Nat.gcd x y))
  have B0 : W5.heap[w.heap.size]? = some (.cells #[.bool ng, .slice An' ln' cn', .slice Ad' ld' cd'] 47 (0, 0)) := hW5 ▸ blk_set2 (blk_set1 (blk_set0 B0))
  have B1 : W5.heap[w.heap.size + 1]? = some (.cells #[.string ⟨#[]⟩, .string ⟨#[]⟩] 23 (0, 0)) := by
    rw [hW5, Below.heap_setCell _ _ _ _ (by show w.heap.size + 1 ≠ w.heap.size; omega), Below.heap_setCell _ _ _ _ (by show w.heap.size + 1 ≠ w.heap.size; omega), Below.heap_setCell _ _ _ _ (by show w.heap.size + 1 ≠ w.heap.size; omega)]
    exact B1
  have hbw5 : Below w.heap.size w W5 := by
    rw [hW5]
    exact ((hbw1.setCell (p := ⟨w.heap.size, 0, none⟩) (Nat.le_refl _) _).setCell (p := ⟨w.heap.size, 1, none⟩) (Nat.le_refl _) _).setCell (p := ⟨w.heap.size, 2, none⟩) (Nat.le_refl _) _
  have hs5 : W5.heap.size = w1.heap.size := by rw [hW5]; simp [World.setCell]
  rw [← hW5]
  clear hW5 e1 e2 c0 c1 c2 f0 f1 f2
  have HT5 := Lib.hid (HT.out.below hbw5)
  have K1 := Lib.hid (fun w' (hb' : Below W5.heap.size W5 w') => digits_any L _ _ w' (HN5.out.below hb') hL (HT5.out.below hb'))
  have K2 := Lib.hid (fun w' (hb' : Below W5.heap.size W5 w') => digits_any L _ _ w' (HD5.out.below hb') hL (HT5.out.below hb'))
  have c1 : W5.cell? ⟨w.heap.size, 1, none⟩ = some (.slice An' ln' cn') := by rw [Lib.cell_of_heap B0]; rfl
  have c2 : W5.cell? ⟨w.heap.size, 2, none⟩ = some (.slice Ad' ld' cd') := by rw [Lib.cell_of_heap B0]; rfl
  have r1 := Later.cell c1
  have r2 := Later.cell c2
  refine wp_region_later (by kernel_rfl) (by kernel_rfl) ?_
  repeat (go_big_quiet_step (first | with_reducible exact Later.call K1.out _ | with_reducible exact Later.call K2.out _))
  refine wpQuiet_nil ?_
  intro W6 hw'
  have hb6 : Below W5.heap.size W5 W6 := by
    obtain ⟨⟨_, hb6⟩, rfl⟩ := hw'
    exact hb6
  clear hw'
  have B0 := (hb6.block _ (by omega)).trans B0
  have B1 := (hb6.block _ (by omega)).trans B1
  have hbw6 := hbw5.trans (hb6.mono (by omega))
  clear r1 r2 c1 c2
  have c0 : W6.cell? ⟨w.heap.size, 0, none⟩ = some (.bool ng) := by rw [Lib.cell_of_heap B0]; rfl
  have d0 : W6.cell? ⟨w.heap.size + 1, 0, none⟩ = some (.string ⟨#[]⟩) := by rw [Lib.cell_of_heap B1]; rfl
  have d1 : W6.cell? ⟨w.heap.size + 1, 1, none⟩ = some (.string ⟨#[]⟩) := by rw [Lib.cell_of_heap B1]; rfl
  have g0 : W6.frozen? ⟨w.heap.size + 1, 0, none⟩ = false := Lib.frozen_of_heap B1 0
  have g1 : W6.frozen? ⟨w.heap.size + 1, 1, none⟩ = false := Lib.frozen_of_heap B1 1
  obtain ⟨tn, etn⟩ : ∃ tn : ByteArray, tn = ⟨(decS (x / Nat.gcd x y)).toArray⟩ := ⟨_, rfl⟩
  obtain ⟨td, etd⟩ : ∃ td : ByteArray, td = ⟨(decS (y / Nat.gcd x y)).toArray⟩ := ⟨_, rfl⟩
  rw [← etn, ← etd]
  have HSN := Lib.hid (show tn.size = (decS (x / Nat.gcd x y)).length by rw [etn]; rfl)
  have HSD := Lib.hid (show td.size = (denT x y).length by rw [etd]; rfl)
  have HTN := Lib.hid etn
  have HTD := Lib.hid etd
  clear etn etd
  by_cases h1 : 2000 < tn.size
  · have HE := Lib.hid (show ratioE neg x y = _ from if_pos (.inl (by rw [← HSN.out]; exact h1)))
    go_wp2
    obtain ⟨W7, hW7⟩ : ∃ W7, W7 = (W6.setCell ⟨w.heap.size + 1, 0, none⟩ (.string ⟨#[]⟩)).setCell ⟨w.heap.size + 1, 1, none⟩ (.string ⟨#[]⟩) := ⟨_, rfl⟩
    have B7 : W7.heap[w.heap.size + 1]? = some (.cells #[.string ⟨#[]⟩, .string ⟨#[]⟩] 23 (0, 0)) := hW7 ▸ blk2_set1 (blk2_set0 B1)
    have hbw7 : Below w.heap.size w W7 := by
      rw [hW7]
      exact (hbw6.setCell (p := ⟨w.heap.size + 1, 0, none⟩) (Nat.le_succ _) _).setCell (p := ⟨w.heap.size + 1, 1, none⟩) (Nat.le_succ _) _
    rw [← hW7]
    clear hW7
    have q0 : W7.cell? ⟨w.heap.size + 1, 0, none⟩ = some (.string ⟨#[]⟩) := by rw [Lib.cell_of_heap B7]; rfl
    have q1 : W7.cell? ⟨w.heap.size + 1, 1, none⟩ = some (.string ⟨#[]⟩) := by rw [Lib.cell_of_heap B7]; rfl
    refine bodyPost_ret (v := .tuple #[.agg #[.string ⟨#[]⟩, .string ⟨#[]⟩], .int .i64 2]) (by simp [results, Tryz.results25, go_sem, q0, q1]) rfl ⟨ret_val (by rw [HE.out]), hbw7⟩
  by_cases h2 : 2000 < td.size
  · have HE := Lib.hid (show ratioE neg x y = _ from if_pos (.inr (by rw [← HSD.out]; exact h2)))
    go_wp2
    obtain ⟨W7, hW7⟩ : ∃ W7, W7 = (W6.setCell ⟨w.heap.size + 1, 0, none⟩ (.string ⟨#[]⟩)).setCell ⟨w.heap.size + 1, 1, none⟩ (.string ⟨#[]⟩) := ⟨_, rfl⟩
    have B7 : W7.heap[w.heap.size + 1]? = some (.cells #[.string ⟨#[]⟩, .string ⟨#[]⟩] 23 (0, 0)) := hW7 ▸ blk2_set1 (blk2_set0 B1)
    have hbw7 : Below w.heap.size w W7 := by
      rw [hW7]
      exact (hbw6.setCell (p := ⟨w.heap.size + 1, 0, none⟩) (Nat.le_succ _) _).setCell (p := ⟨w.heap.size + 1, 1, none⟩) (Nat.le_succ _) _
    rw [← hW7]
    clear hW7
    have q0 : W7.cell? ⟨w.heap.size + 1, 0, none⟩ = some (.string ⟨#[]⟩) := by rw [Lib.cell_of_heap B7]; rfl
    have q1 : W7.cell? ⟨w.heap.size + 1, 1, none⟩ = some (.string ⟨#[]⟩) := by rw [Lib.cell_of_heap B7]; rfl
    refine bodyPost_ret (v := .tuple #[.agg #[.string ⟨#[]⟩, .string ⟨#[]⟩], .int .i64 2]) (by simp [results, Tryz.results25, go_sem, q0, q1]) rfl ⟨ret_val (by rw [HE.out]), hbw7⟩
  have HE := Lib.hid (show ratioE neg x y = _ from if_neg (by unfold bigT; rw [← HSN.out, ← HSD.out]; omega))
  cases ng
  · go_wp2
    obtain ⟨W7, hW7⟩ : ∃ W7, W7 = (W6.setCell ⟨w.heap.size + 1, 0, none⟩ (.string tn)).setCell ⟨w.heap.size + 1, 1, none⟩ (.string td) := ⟨_, rfl⟩
    have B7 : W7.heap[w.heap.size + 1]? = some (.cells #[.string tn, .string td] 23 (0, 0)) := hW7 ▸ blk2_set1 (blk2_set0 B1)
    have hbw7 : Below w.heap.size w W7 := by
      rw [hW7]
      exact (hbw6.setCell (p := ⟨w.heap.size + 1, 0, none⟩) (Nat.le_succ _) _).setCell (p := ⟨w.heap.size + 1, 1, none⟩) (Nat.le_succ _) _
    rw [← hW7]
    clear hW7
    have q0 : W7.cell? ⟨w.heap.size + 1, 0, none⟩ = some (.string tn) := by rw [Lib.cell_of_heap B7]; rfl
    have q1 : W7.cell? ⟨w.heap.size + 1, 1, none⟩ = some (.string td) := by rw [Lib.cell_of_heap B7]; rfl
    refine bodyPost_ret (v := .tuple #[.agg #[.string tn, .string td], .int .i64 0]) (by simp [results, Tryz.results25, go_sem, q0, q1]) rfl ⟨ret_val (by rw [HE.out, numT, HNG.out, HTN.out, HTD.out]; rfl), hbw7⟩
  · have HCAT := Lib.hid (show ((⟨#[45]⟩ : ByteArray) ++ tn) = ⟨(numT neg x y).toArray⟩ from ba_of (by rw [ByteArray.data_append, Array.toList_append, HTN.out, numT, HNG.out]; rfl))
    go_wp2
    obtain ⟨W7, hW7⟩ : ∃ W7, W7 = (W6.setCell ⟨w.heap.size + 1, 0, none⟩ (.string (⟨#[45]⟩ ++ tn))).setCell ⟨w.heap.size + 1, 1, none⟩ (.string td) := ⟨_, rfl⟩
    have B7 : W7.heap[w.heap.size + 1]? = some (.cells #[.string (⟨#[45]⟩ ++ tn), .string td] 23 (0, 0)) := hW7 ▸ blk2_set1 (blk2_set0 B1)
    have hbw7 : Below w.heap.size w W7 := by
      rw [hW7]
      exact (hbw6.setCell (p := ⟨w.heap.size + 1, 0, none⟩) (Nat.le_succ _) _).setCell (p := ⟨w.heap.size + 1, 1, none⟩) (Nat.le_succ _) _
    rw [← hW7]
    clear hW7
    have q0 : W7.cell? ⟨w.heap.size + 1, 0, none⟩ = some (.string (⟨#[45]⟩ ++ tn)) := by rw [Lib.cell_of_heap B7]; rfl
    have q1 : W7.cell? ⟨w.heap.size + 1, 1, none⟩ = some (.string td) := by rw [Lib.cell_of_heap B7]; rfl
    refine bodyPost_ret (v := .tuple #[.agg #[.string (⟨#[45]⟩ ++ tn), .string td], .int .i64 0]) (by simp [results, Tryz.results25, go_sem, q0, q1]) rfl ⟨ret_val (by rw [HE.out, HCAT.out, HTD.out]; rfl), hbw7⟩
end Go.Proofs.YtmpelpmhbadjoaaGreatDoor
