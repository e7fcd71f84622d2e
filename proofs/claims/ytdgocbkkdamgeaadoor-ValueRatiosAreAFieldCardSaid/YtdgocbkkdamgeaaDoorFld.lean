/- The walks of the law's own words: sum, product, both, agree. -/
import Derived.Test.YtdgocbkkdamgeaaDoorInv
namespace Go.Proofs.YtdgocbkkdamgeaaDoor
open Go.RowKit Limb Dig Rtx

def okV (p : R × Bool) : Value := .tuple #[ratV p.1, .bool p.2]
theorem outV_form (p : R × Nat) : ∃ S1 S2 : ByteArray, ∃ k : Nat, p = (rx S1 S2, k) ∧ outV p = .tuple #[.agg #[.string S1, .string S2], .int .i64 (k : Nat)] := ⟨⟨p.1.n.toArray⟩, ⟨p.1.d.toArray⟩, p.2, rfl, rfl⟩
theorem okV_form (p : R × Bool) : ∃ S1 S2 : ByteArray, ∃ k : Bool, p = (rx S1 S2, k) ∧ okV p = .tuple #[.agg #[.string S1, .string S2], .bool k] := ⟨⟨p.1.n.toArray⟩, ⟨p.1.d.toArray⟩, p.2, rfl, rfl⟩
theorem okV_rx (S1 S2 : ByteArray) (k : Bool) : okV (rx S1 S2, k) = .tuple #[.agg #[.string S1, .string S2], .bool k] := rfl
set_option maxHeartbeats 2000000 in
set_option maxRecDepth 100000 in
theorem sum_any (n d n' d' : ByteArray) (w : World) (hn : n.size ≤ maxLen) (hd : d.size ≤ maxLen) (hn' : n'.size ≤ maxLen) (hd' : d'.size ≤ maxLen) (htab : Tab w) :
    Calls Tryd.prog 5 #[.agg #[.string n, .string d], .agg #[.string n', .string d']] w fun e w' => e = .returned (okV (okR (sumR (rx n d) (rx n' d')))) ∧ Below w.heap.size w w' := by
  have HT := Lib.hid htab
  clear htab
  go_enter Tryd.func5, Tryd.ntmps5
  go_wp2_with fail
  obtain ⟨W, hW⟩ : ∃ W, W = (((w.alloc (.cells #[.string n, .string d] 23 (0, 0))).alloc (.cells #[.string n', .string d'] 23 (0, 0))).alloc (.cells #[.string ⟨#[]⟩, .string ⟨#[]⟩] 23 (0, 0))) := ⟨_, rfl⟩
  have hbw : Below w.heap.size w W := by rw [hW]; exact ((((Below.refl _ w).alloc (Nat.le_refl _) _).alloc (by simp) _).alloc (by simp; omega) _)
  have B0 : Blk W (w.heap.size) 23 #[.string n, .string d] := by
    rw [hW]
    have := Blk.new w 23 #[.string n, .string d]
    have := this.alloc (.cells #[.string n', .string d'] 23 (0, 0))
    have := this.alloc (.cells #[.string ⟨#[]⟩, .string ⟨#[]⟩] 23 (0, 0))
    exact this
  have B1 : Blk W (w.heap.size + 1) 23 #[.string n', .string d'] := by
    rw [hW]
    have := Blk.new (w.alloc (.cells #[.string n, .string d] 23 (0, 0))) 23 #[.string n', .string d']
    have := this.alloc (.cells #[.string ⟨#[]⟩, .string ⟨#[]⟩] 23 (0, 0))
    rwa [World.size_alloc] at this
  have B2 : Blk W (w.heap.size + 2) 23 #[.string ⟨#[]⟩, .string ⟨#[]⟩] := by
    rw [hW]
    have := Blk.new ((w.alloc (.cells #[.string n, .string d] 23 (0, 0))).alloc (.cells #[.string n', .string d'] 23 (0, 0))) 23 #[.string ⟨#[]⟩, .string ⟨#[]⟩]
    rwa [World.size_alloc, World.size_alloc] at this
  have hsz : W.heap.size = w.heap.size + 3 := by rw [hW]; simp
  rw [← hW]
  clear hW
  refine (Sum_any n d n' d' W hn hd hn' hd' (HT.out.below hbw)).mono ?_
  obtain ⟨S1, S2, k, hq, hv⟩ := outV_form (sumR (rx n d) (rx n' d'))
  have HE := Lib.hid (show okV (okR (sumR (rx n d) (rx n' d'))) = .tuple #[.agg #[.string S1, .string S2], .bool (decide (k = 0))] by rw [hq]; rfl)
  rw [hv]
  clear hq hv
  rintro e w1 ⟨rfl, hb1⟩
  have hbw := hbw.trans (hb1.mono hbw.size)
  have B2 := B2.below hb1 B2.lt
  have hs1 := hb1.size
  have hlt : w.heap.size + 2 < w1.heap.size := by omega
  have rc0 : w1.cell? ⟨w.heap.size + 2, 0, none⟩ = some (.string ⟨#[]⟩) := B2.cell 0
  have rz0 : w1.frozen? ⟨w.heap.size + 2, 0, none⟩ = false := B2.frozen 0
  have rc1 : w1.cell? ⟨w.heap.size + 2, 1, none⟩ = some (.string ⟨#[]⟩) := B2.cell 1
  have rz1 : w1.frozen? ⟨w.heap.size + 2, 1, none⟩ = false := B2.frozen 1
  by_cases h0 : k = 0
  · have hne : (((k : Nat) : Int) == 0) = true := by simp; omega
    have HE := Lib.hid (HE.out.trans (show _ = Value.tuple #[.agg #[.string S1, .string S2], .bool true] by rw [decide_eq_true h0]))
    clear h0
    go_wp2
    obtain ⟨W9, hW9⟩ : ∃ W9, W9 = ((w1.setCell ⟨w.heap.size + 2, 0, none⟩ (.string S1)).setCell ⟨w.heap.size + 2, 1, none⟩ (.string S2)).alloc (.cells #[.string S1, .string S2] 23 (0, 0)) := ⟨_, rfl⟩
    have B9 : Blk W9 (w.heap.size + 2) 23 #[.string S1, .string S2] := hW9 ▸ (B2.store2 _ _).alloc _
    have hbw9 : Below w.heap.size w W9 := hW9 ▸ (hbw.store2 (by omega) _ _).alloc (by simp [World.setCell]; exact hbw.size) _
    rw [← hW9]
    clear hW9
    have qc0 : W9.cell? ⟨w.heap.size + 2, 0, none⟩ = some (.string S1) := B9.cell 0
    have qc1 : W9.cell? ⟨w.heap.size + 2, 1, none⟩ = some (.string S2) := B9.cell 1
    refine bodyPost_ret (v := .tuple #[.agg #[.string S1, .string S2], .bool true]) (by simp [results, Tryd.results5, go_sem, qc0, qc1]) rfl ⟨ret_val HE.out.symm, hbw9⟩
  · have hne : (((k : Nat) : Int) == 0) = false := by simp; omega
    have HE := Lib.hid (HE.out.trans (show _ = Value.tuple #[.agg #[.string S1, .string S2], .bool false] by rw [decide_eq_false h0]))
    clear h0
    go_wp2
    obtain ⟨W9, hW9⟩ : ∃ W9, W9 = ((w1.setCell ⟨w.heap.size + 2, 0, none⟩ (.string S1)).setCell ⟨w.heap.size + 2, 1, none⟩ (.string S2)).alloc (.cells #[.string S1, .string S2] 23 (0, 0)) := ⟨_, rfl⟩
    have B9 : Blk W9 (w.heap.size + 2) 23 #[.string S1, .string S2] := hW9 ▸ (B2.store2 _ _).alloc _
    have hbw9 : Below w.heap.size w W9 := hW9 ▸ (hbw.store2 (by omega) _ _).alloc (by simp [World.setCell]; exact hbw.size) _
    rw [← hW9]
    clear hW9
    have qc0 : W9.cell? ⟨w.heap.size + 2, 0, none⟩ = some (.string S1) := B9.cell 0
    have qc1 : W9.cell? ⟨w.heap.size + 2, 1, none⟩ = some (.string S2) := B9.cell 1
    refine bodyPost_ret (v := .tuple #[.agg #[.string S1, .string S2], .bool false]) (by simp [results, Tryd.results5, go_sem, qc0, qc1]) rfl ⟨ret_val HE.out.symm, hbw9⟩
set_option maxHeartbeats 2000000 in
set_option maxRecDepth 100000 in
theorem prod_any (n d n' d' : ByteArray) (w : World) (hn : n.size ≤ maxLen) (hd : d.size ≤ maxLen) (hn' : n'.size ≤ maxLen) (hd' : d'.size ≤ maxLen) (htab : Tab w) :
    Calls Tryd.prog 8 #[.agg #[.string n, .string d], .agg #[.string n', .string d']] w fun e w' => e = .returned (okV (okR (prodR (rx n d) (rx n' d')))) ∧ Below w.heap.size w w' := by
  have HT := Lib.hid htab
  clear htab
  go_enter Tryd.func8, Tryd.ntmps8
  go_wp2_with fail
  obtain ⟨W, hW⟩ : ∃ W, W = (((w.alloc (.cells #[.string n, .string d] 23 (0, 0))).alloc (.cells #[.string n', .string d'] 23 (0, 0))).alloc (.cells #[.string ⟨#[]⟩, .string ⟨#[]⟩] 23 (0, 0))) := ⟨_, rfl⟩
  have hbw : Below w.heap.size w W := by rw [hW]; exact ((((Below.refl _ w).alloc (Nat.le_refl _) _).alloc (by simp) _).alloc (by simp; omega) _)
  have B0 : Blk W (w.heap.size) 23 #[.string n, .string d] := by
    rw [hW]
    have := Blk.new w 23 #[.string n, .string d]
    have := this.alloc (.cells #[.string n', .string d'] 23 (0, 0))
    have := this.alloc (.cells #[.string ⟨#[]⟩, .string ⟨#[]⟩] 23 (0, 0))
    exact this
  have B1 : Blk W (w.heap.size + 1) 23 #[.string n', .string d'] := by
    rw [hW]
    have := Blk.new (w.alloc (.cells #[.string n, .string d] 23 (0, 0))) 23 #[.string n', .string d']
    have := this.alloc (.cells #[.string ⟨#[]⟩, .string ⟨#[]⟩] 23 (0, 0))
    rwa [World.size_alloc] at this
  have B2 : Blk W (w.heap.size + 2) 23 #[.string ⟨#[]⟩, .string ⟨#[]⟩] := by
    rw [hW]
    have := Blk.new ((w.alloc (.cells #[.string n, .string d] 23 (0, 0))).alloc (.cells #[.string n', .string d'] 23 (0, 0))) 23 #[.string ⟨#[]⟩, .string ⟨#[]⟩]
    rwa [World.size_alloc, World.size_alloc] at this
  have hsz : W.heap.size = w.heap.size + 3 := by rw [hW]; simp
  rw [← hW]
  clear hW
  refine (Prod_any n d n' d' W hn hd hn' hd' (HT.out.below hbw)).mono ?_
  obtain ⟨S1, S2, k, hq, hv⟩ := outV_form (prodR (rx n d) (rx n' d'))
  have HE := Lib.hid (show okV (okR (prodR (rx n d) (rx n' d'))) = .tuple #[.agg #[.string S1, .string S2], .bool (decide (k = 0))] by rw [hq]; rfl)
  rw [hv]
  clear hq hv
  rintro e w1 ⟨rfl, hb1⟩
  have hbw := hbw.trans (hb1.mono hbw.size)
  have B2 := B2.below hb1 B2.lt
  have hs1 := hb1.size
  have hlt : w.heap.size + 2 < w1.heap.size := by omega
  have rc0 : w1.cell? ⟨w.heap.size + 2, 0, none⟩ = some (.string ⟨#[]⟩) := B2.cell 0
  have rz0 : w1.frozen? ⟨w.heap.size + 2, 0, none⟩ = false := B2.frozen 0
  have rc1 : w1.cell? ⟨w.heap.size + 2, 1, none⟩ = some (.string ⟨#[]⟩) := B2.cell 1
  have rz1 : w1.frozen? ⟨w.heap.size + 2, 1, none⟩ = false := B2.frozen 1
  by_cases h0 : k = 0
  · have hne : (((k : Nat) : Int) == 0) = true := by simp; omega
    have HE := Lib.hid (HE.out.trans (show _ = Value.tuple #[.agg #[.string S1, .string S2], .bool true] by rw [decide_eq_true h0]))
    clear h0
    go_wp2
    obtain ⟨W9, hW9⟩ : ∃ W9, W9 = ((w1.setCell ⟨w.heap.size + 2, 0, none⟩ (.string S1)).setCell ⟨w.heap.size + 2, 1, none⟩ (.string S2)).alloc (.cells #[.string S1, .string S2] 23 (0, 0)) := ⟨_, rfl⟩
    have B9 : Blk W9 (w.heap.size + 2) 23 #[.string S1, .string S2] := hW9 ▸ (B2.store2 _ _).alloc _
    have hbw9 : Below w.heap.size w W9 := hW9 ▸ (hbw.store2 (by omega) _ _).alloc (by simp [World.setCell]; exact hbw.size) _
    rw [← hW9]
    clear hW9
    have qc0 : W9.cell? ⟨w.heap.size + 2, 0, none⟩ = some (.string S1) := B9.cell 0
    have qc1 : W9.cell? ⟨w.heap.size + 2, 1, none⟩ = some (.string S2) := B9.cell 1
    refine bodyPost_ret (v := .tuple #[.agg #[.string S1, .string S2], .bool true]) (by simp [results, Tryd.results8, go_sem, qc0, qc1]) rfl ⟨ret_val HE.out.symm, hbw9⟩
  · have hne : (((k : Nat) : Int) == 0) = false := by simp; omega
    have HE := Lib.hid (HE.out.trans (show _ = Value.tuple #[.agg #[.string S1, .string S2], .bool false] by rw [decide_eq_false h0]))
    clear h0
    go_wp2
    obtain ⟨W9, hW9⟩ : ∃ W9, W9 = ((w1.setCell ⟨w.heap.size + 2, 0, none⟩ (.string S1)).setCell ⟨w.heap.size + 2, 1, none⟩ (.string S2)).alloc (.cells #[.string S1, .string S2] 23 (0, 0)) := ⟨_, rfl⟩
    have B9 : Blk W9 (w.heap.size + 2) 23 #[.string S1, .string S2] := hW9 ▸ (B2.store2 _ _).alloc _
    have hbw9 : Below w.heap.size w W9 := hW9 ▸ (hbw.store2 (by omega) _ _).alloc (by simp [World.setCell]; exact hbw.size) _
    rw [← hW9]
    clear hW9
    have qc0 : W9.cell? ⟨w.heap.size + 2, 0, none⟩ = some (.string S1) := B9.cell 0
    have qc1 : W9.cell? ⟨w.heap.size + 2, 1, none⟩ = some (.string S2) := B9.cell 1
    refine bodyPost_ret (v := .tuple #[.agg #[.string S1, .string S2], .bool false]) (by simp [results, Tryd.results8, go_sem, qc0, qc1]) rfl ⟨ret_val HE.out.symm, hbw9⟩
set_option maxHeartbeats 2000000 in
set_option maxRecDepth 100000 in
theorem both_sum (n d n' d' : ByteArray) (x y : Bool) (w : World) (hn : n.size ≤ maxLen) (hd : d.size ≤ maxLen) (hn' : n'.size ≤ maxLen) (hd' : d'.size ≤ maxLen) (htab : Tab w) :
    Calls Tryd.prog 6 #[.func (.func 5) #[] #[], .agg #[.string n, .string d], .bool x, .agg #[.string n', .string d'], .bool y] w fun e w' => e = .returned (okV (bothR sumR (rx n d) x (rx n' d') y)) ∧ Below w.heap.size w w' := by
  have HT := Lib.hid htab
  clear htab
  by_cases hxy : x = true ∧ y = true
  rotate_left
  · have HE := Lib.hid (show okV (bothR sumR (rx n d) x (rx n' d') y) = .tuple #[.agg #[.string ⟨#[]⟩, .string ⟨#[]⟩], .bool false] by
      unfold bothR
      rw [if_neg (by simpa using hxy)]; rfl)
    have hc : x = false ∨ (x = true ∧ y = false) := by cases x <;> cases y <;> simp at hxy ⊢
    clear hxy
    rcases hc with rfl | ⟨rfl, rfl⟩
    all_goals
      go_enter Tryd.func6, Tryd.ntmps6
      go_wp2
      refine bodyPost_ret (v := .tuple #[.agg #[.string ⟨#[]⟩, .string ⟨#[]⟩], .bool false]) (by simp [results, Tryd.results6, go_sem]) rfl ⟨ret_val HE.out.symm, ?_⟩
      exact ((((Below.refl _ _).alloc (Nat.le_refl _) _).alloc (by simp) _).alloc (by simp; omega) _)
  obtain ⟨rfl, rfl⟩ := hxy
  have HB := Lib.hid (show bothR sumR (rx n d) true (rx n' d') true = okR (sumR (rx n d) (rx n' d')) from rfl)
  go_enter Tryd.func6, Tryd.ntmps6
  go_wp2_with fail
  obtain ⟨W, hW⟩ : ∃ W, W = (((w.alloc (.cells #[.string n, .string d] 23 (0, 0))).alloc (.cells #[.string n', .string d'] 23 (0, 0))).alloc (.cells #[.string ⟨#[]⟩, .string ⟨#[]⟩] 23 (0, 0))) := ⟨_, rfl⟩
  have hbw : Below w.heap.size w W := by rw [hW]; exact ((((Below.refl _ w).alloc (Nat.le_refl _) _).alloc (by simp) _).alloc (by simp; omega) _)
  have B0 : Blk W (w.heap.size) 23 #[.string n, .string d] := by
    rw [hW]
    have := Blk.new w 23 #[.string n, .string d]
    have := this.alloc (.cells #[.string n', .string d'] 23 (0, 0))
    have := this.alloc (.cells #[.string ⟨#[]⟩, .string ⟨#[]⟩] 23 (0, 0))
    exact this
  have B1 : Blk W (w.heap.size + 1) 23 #[.string n', .string d'] := by
    rw [hW]
    have := Blk.new (w.alloc (.cells #[.string n, .string d] 23 (0, 0))) 23 #[.string n', .string d']
    have := this.alloc (.cells #[.string ⟨#[]⟩, .string ⟨#[]⟩] 23 (0, 0))
    rwa [World.size_alloc] at this
  have B2 : Blk W (w.heap.size + 2) 23 #[.string ⟨#[]⟩, .string ⟨#[]⟩] := by
    rw [hW]
    have := Blk.new ((w.alloc (.cells #[.string n, .string d] 23 (0, 0))).alloc (.cells #[.string n', .string d'] 23 (0, 0))) 23 #[.string ⟨#[]⟩, .string ⟨#[]⟩]
    rwa [World.size_alloc, World.size_alloc] at this
  have hsz : W.heap.size = w.heap.size + 3 := by rw [hW]; simp
  rw [← hW]
  clear hW
  refine (sum_any n d n' d' W hn hd hn' hd' (HT.out.below hbw)).mono ?_
  obtain ⟨S1, S2, k, hq, hv⟩ := okV_form (okR (sumR (rx n d) (rx n' d')))
  have HE := Lib.hid (show okV (bothR sumR (rx n d) true (rx n' d') true) = .tuple #[.agg #[.string S1, .string S2], .bool k] by rw [HB.out, hq]; rfl)
  rw [hv]
  clear hq hv
  rintro e w1 ⟨rfl, hb1⟩
  have hbw := hbw.trans (hb1.mono hbw.size)
  have B2 := B2.below hb1 B2.lt
  have rc0 : w1.cell? ⟨w.heap.size + 2, 0, none⟩ = some (.string ⟨#[]⟩) := B2.cell 0
  have rz0 : w1.frozen? ⟨w.heap.size + 2, 0, none⟩ = false := B2.frozen 0
  have rc1 : w1.cell? ⟨w.heap.size + 2, 1, none⟩ = some (.string ⟨#[]⟩) := B2.cell 1
  have rz1 : w1.frozen? ⟨w.heap.size + 2, 1, none⟩ = false := B2.frozen 1
  go_wp2
  obtain ⟨W9, hW9⟩ : ∃ W9, W9 = (w1.setCell ⟨w.heap.size + 2, 0, none⟩ (.string S1)).setCell ⟨w.heap.size + 2, 1, none⟩ (.string S2) := ⟨_, rfl⟩
  have B9 : Blk W9 (w.heap.size + 2) 23 #[.string S1, .string S2] := hW9 ▸ B2.store2 _ _
  have hbw9 : Below w.heap.size w W9 := hW9 ▸ hbw.store2 (by omega) _ _
  rw [← hW9]
  clear hW9
  have qc0 : W9.cell? ⟨w.heap.size + 2, 0, none⟩ = some (.string S1) := B9.cell 0
  have qc1 : W9.cell? ⟨w.heap.size + 2, 1, none⟩ = some (.string S2) := B9.cell 1
  refine bodyPost_ret (v := .tuple #[.agg #[.string S1, .string S2], .bool k]) (by simp [results, Tryd.results6, go_sem, qc0, qc1]) rfl ⟨ret_val (HE.out.symm), hbw9⟩
set_option maxHeartbeats 2000000 in
set_option maxRecDepth 100000 in
theorem both_prod (n d n' d' : ByteArray) (x y : Bool) (w : World) (hn : n.size ≤ maxLen) (hd : d.size ≤ maxLen) (hn' : n'.size ≤ maxLen) (hd' : d'.size ≤ maxLen) (htab : Tab w) :
    Calls Tryd.prog 6 #[.func (.func 8) #[] #[], .agg #[.string n, .string d], .bool x, .agg #[.string n', .string d'], .bool y] w fun e w' => e = .returned (okV (bothR prodR (rx n d) x (rx n' d') y)) ∧ Below w.heap.size w w' := by
  have HT := Lib.hid htab
  clear htab
  by_cases hxy : x = true ∧ y = true
  rotate_left
  · have HE := Lib.hid (show okV (bothR prodR (rx n d) x (rx n' d') y) = .tuple #[.agg #[.string ⟨#[]⟩, .string ⟨#[]⟩], .bool false] by
      unfold bothR
      rw [if_neg (by simpa using hxy)]; rfl)
    have hc : x = false ∨ (x = true ∧ y = false) := by cases x <;> cases y <;> simp at hxy ⊢
    clear hxy
    rcases hc with rfl | ⟨rfl, rfl⟩
    all_goals
      go_enter Tryd.func6, Tryd.ntmps6
      go_wp2
      refine bodyPost_ret (v := .tuple #[.agg #[.string ⟨#[]⟩, .string ⟨#[]⟩], .bool false]) (by simp [results, Tryd.results6, go_sem]) rfl ⟨ret_val HE.out.symm, ?_⟩
      exact ((((Below.refl _ _).alloc (Nat.le_refl _) _).alloc (by simp) _).alloc (by simp; omega) _)
  obtain ⟨rfl, rfl⟩ := hxy
  have HB := Lib.hid (show bothR prodR (rx n d) true (rx n' d') true = okR (prodR (rx n d) (rx n' d')) from rfl)
  go_enter Tryd.func6, Tryd.ntmps6
  go_wp2_with fail
  obtain ⟨W, hW⟩ : ∃ W, W = (((w.alloc (.cells #[.string n, .string d] 23 (0, 0))).alloc (.cells #[.string n', .string d'] 23 (0, 0))).alloc (.cells #[.string ⟨#[]⟩, .string ⟨#[]⟩] 23 (0, 0))) := ⟨_, rfl⟩
  have hbw : Below w.heap.size w W := by rw [hW]; exact ((((Below.refl _ w).alloc (Nat.le_refl _) _).alloc (by simp) _).alloc (by simp; omega) _)
  have B0 : Blk W (w.heap.size) 23 #[.string n, .string d] := by
    rw [hW]
    have := Blk.new w 23 #[.string n, .string d]
    have := this.alloc (.cells #[.string n', .string d'] 23 (0, 0))
    have := this.alloc (.cells #[.string ⟨#[]⟩, .string ⟨#[]⟩] 23 (0, 0))
    exact this
  have B1 : Blk W (w.heap.size + 1) 23 #[.string n', .string d'] := by
    rw [hW]
    have := Blk.new (w.alloc (.cells #[.string n, .string d] 23 (0, 0))) 23 #[.string n', .string d']
    have := this.alloc (.cells #[.string ⟨#[]⟩, .string ⟨#[]⟩] 23 (0, 0))
    rwa [World.size_alloc] at this
  have B2 : Blk W (w.heap.size + 2) 23 #[.string ⟨#[]⟩, .string ⟨#[]⟩] := by
    rw [hW]
    have := Blk.new ((w.alloc (.cells #[.string n, .string d] 23 (0, 0))).alloc (.cells #[.string n', .string d'] 23 (0, 0))) 23 #[.string ⟨#[]⟩, .string ⟨#[]⟩]
    rwa [World.size_alloc, World.size_alloc] at this
  have hsz : W.heap.size = w.heap.size + 3 := by rw [hW]; simp
  rw [← hW]
  clear hW
  refine (prod_any n d n' d' W hn hd hn' hd' (HT.out.below hbw)).mono ?_
  obtain ⟨S1, S2, k, hq, hv⟩ := okV_form (okR (prodR (rx n d) (rx n' d')))
  have HE := Lib.hid (show okV (bothR prodR (rx n d) true (rx n' d') true) = .tuple #[.agg #[.string S1, .string S2], .bool k] by rw [HB.out, hq]; rfl)
  rw [hv]
  clear hq hv
  rintro e w1 ⟨rfl, hb1⟩
  have hbw := hbw.trans (hb1.mono hbw.size)
  have B2 := B2.below hb1 B2.lt
  have rc0 : w1.cell? ⟨w.heap.size + 2, 0, none⟩ = some (.string ⟨#[]⟩) := B2.cell 0
  have rz0 : w1.frozen? ⟨w.heap.size + 2, 0, none⟩ = false := B2.frozen 0
  have rc1 : w1.cell? ⟨w.heap.size + 2, 1, none⟩ = some (.string ⟨#[]⟩) := B2.cell 1
  have rz1 : w1.frozen? ⟨w.heap.size + 2, 1, none⟩ = false := B2.frozen 1
  go_wp2
  obtain ⟨W9, hW9⟩ : ∃ W9, W9 = (w1.setCell ⟨w.heap.size + 2, 0, none⟩ (.string S1)).setCell ⟨w.heap.size + 2, 1, none⟩ (.string S2) := ⟨_, rfl⟩
  have B9 : Blk W9 (w.heap.size + 2) 23 #[.string S1, .string S2] := hW9 ▸ B2.store2 _ _
  have hbw9 : Below w.heap.size w W9 := hW9 ▸ hbw.store2 (by omega) _ _
  rw [← hW9]
  clear hW9
  have qc0 : W9.cell? ⟨w.heap.size + 2, 0, none⟩ = some (.string S1) := B9.cell 0
  have qc1 : W9.cell? ⟨w.heap.size + 2, 1, none⟩ = some (.string S2) := B9.cell 1
  refine bodyPost_ret (v := .tuple #[.agg #[.string S1, .string S2], .bool k]) (by simp [results, Tryd.results6, go_sem, qc0, qc1]) rfl ⟨ret_val (HE.out.symm), hbw9⟩
set_option maxHeartbeats 2000000 in
set_option maxRecDepth 100000 in
theorem agree_any (n d n' d' : ByteArray) (x y : Bool) (w : World) (h : x = true → y = true → n = n' ∧ d = d') :
    Calls Tryd.prog 7 #[.agg #[.string n, .string d], .bool x, .agg #[.string n', .string d'], .bool y] w fun e w' => e = .returned (.bool true) ∧ Below w.heap.size w w' := by
  by_cases hxy : x = true ∧ y = true
  · obtain ⟨rfl, rfl⟩ := hxy
    obtain ⟨rfl, rfl⟩ := h rfl rfl
    clear h
    go_enter Tryd.func7, Tryd.ntmps7
    go_wp2
    go_ret
    exact ⟨ret_bool (by simp), ((Below.refl _ _).alloc (Nat.le_refl _) _).alloc (by simp) _⟩
  · have hc : x = false ∨ (x = true ∧ y = false) := by cases x <;> cases y <;> simp at hxy ⊢
    clear hxy h
    rcases hc with rfl | ⟨rfl, rfl⟩
    all_goals
      go_enter Tryd.func7, Tryd.ntmps7
      go_wp2
      go_ret
      exact ⟨rfl, ((Below.refl _ _).alloc (Nat.le_refl _) _).alloc (by simp) _⟩
end Go.Proofs.YtdgocbkkdamgeaaDoor
