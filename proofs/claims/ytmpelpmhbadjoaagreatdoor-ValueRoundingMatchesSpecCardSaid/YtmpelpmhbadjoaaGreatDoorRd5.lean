/- Exact, of the program and of the reference. -/
import Derived.Test.YtmpelpmhbadjoaaGreatDoorRd4
import Derived.Test.YtmpelpmhbadjoaaGreatDoorVck
namespace Go.Proofs.YtmpelpmhbadjoaaGreatDoor
open Go.RowKit Limb Dig Rtx

open Classical in
noncomputable def exactR (x : Val) : R × Nat := if x.k ≠ 2 ∨ checkV x ≠ 0 then (noR, 8) else ratioI x.n 10000
theorem exactR_no {x : Val} (h : x.k ≠ 2 ∨ checkV x ≠ 0) : exactR x = (noR, 8) := if_pos h
theorem exactR_ok {x : Val} (h : x.k = 2) (h' : checkV x = 0) : exactR x = ratioI x.n 10000 := if_neg (by simp [h, h'])
set_option maxHeartbeats 2000000 in
set_option maxRecDepth 100000 in
theorem Exact_any (x : Val) (A : Option Addr) (c : Nat) (w : World) (hn : x.l.length ≤ maxLen) (hs : x.s.size ≤ maxLen) (hx : Reads w w.heap.size 1 A x.l.length (numV .i64 x.l))
    (h1 : -9223372036854775808 ≤ x.n) (h2 : x.n ≤ 9223372036854775807) (htab : Tab w) :
    Calls Tryz.prog 21 #[.agg #[.int .i64 x.k, .int .i64 x.n, .string x.s, .slice A x.l.length c]] w fun e w' => e = .returned (outV (exactR x)) ∧ Below w.heap.size w w' := by
  have HT := Lib.hid htab
  have HR := Lib.hid hx
  clear htab hx
  go_enter Tryz.func21, Tryz.ntmps21
  go_upto_region 1 with (fail)
  obtain ⟨W, hW⟩ : ∃ W, W = ((w.alloc (.cells #[.int .i64 x.k, .int .i64 x.n, .string x.s, .slice A x.l.length c] 35 (0, 0))).alloc (.cells #[.string ⟨#[]⟩, .string ⟨#[]⟩] 23 (0, 0))) := ⟨_, rfl⟩
  have hbw : Below w.heap.size w W := by rw [hW]; exact (((Below.refl _ w).alloc (Nat.le_refl _) _).alloc (by simp) _)
  have B0 : Blk W (w.heap.size) 35 #[.int .i64 x.k, .int .i64 x.n, .string x.s, .slice A x.l.length c] := by
    rw [hW]
    have := Blk.new w 35 #[.int .i64 x.k, .int .i64 x.n, .string x.s, .slice A x.l.length c]
    have := this.alloc (.cells #[.string ⟨#[]⟩, .string ⟨#[]⟩] 23 (0, 0))
    exact this
  have B1 : Blk W (w.heap.size + 1) 23 #[.string ⟨#[]⟩, .string ⟨#[]⟩] := by
    rw [hW]
    have := Blk.new (w.alloc (.cells #[.int .i64 x.k, .int .i64 x.n, .string x.s, .slice A x.l.length c] 35 (0, 0))) 23 #[.string ⟨#[]⟩, .string ⟨#[]⟩]
    rwa [World.size_alloc] at this
  have hsz : W.heap.size = w.heap.size + 2 := by rw [hW]; simp
  rw [← hW]
  clear hW
  have vc0 : W.cell? ⟨w.heap.size, 0, none⟩ = some (.int .i64 x.k) := B0.cell 0
  have vc1 : W.cell? ⟨w.heap.size, 1, none⟩ = some (.int .i64 x.n) := B0.cell 1
  have vc2 : W.cell? ⟨w.heap.size, 2, none⟩ = some (.string x.s) := B0.cell 2
  have vc3 : W.cell? ⟨w.heap.size, 3, none⟩ = some (.slice A x.l.length c) := B0.cell 3
  have rc0 : W.cell? ⟨w.heap.size + 1, 0, none⟩ = some (.string ⟨#[]⟩) := B1.cell 0
  have rz0 : W.frozen? ⟨w.heap.size + 1, 0, none⟩ = false := B1.frozen 0
  have rc1 : W.cell? ⟨w.heap.size + 1, 1, none⟩ = some (.string ⟨#[]⟩) := B1.cell 1
  have rz1 : W.frozen? ⟨w.heap.size + 1, 1, none⟩ = false := B1.frozen 1
  by_cases hk : x.k = 2
  rotate_left
  · have hk2 : (x.k != 2) = true := by simpa using hk
    have HE := Lib.hid (exactR_no (.inl hk))
    clear hk
    go_wp2
    obtain ⟨W9, hW9⟩ : ∃ W9, W9 = (W.setCell ⟨w.heap.size + 1, 0, none⟩ (.string ⟨#[]⟩)).setCell ⟨w.heap.size + 1, 1, none⟩ (.string ⟨#[]⟩) := ⟨_, rfl⟩
    have B9 : Blk W9 (w.heap.size + 1) 23 #[.string ⟨#[]⟩, .string ⟨#[]⟩] := hW9 ▸ B1.store2 _ _
    have hbw9 : Below w.heap.size w W9 := hW9 ▸ hbw.store2 (by omega) _ _
    rw [← hW9]
    clear hW9
    have qc0 : W9.cell? ⟨w.heap.size + 1, 0, none⟩ = some (.string ⟨#[]⟩) := B9.cell 0
    have qc1 : W9.cell? ⟨w.heap.size + 1, 1, none⟩ = some (.string ⟨#[]⟩) := B9.cell 1
    refine bodyPost_ret (v := .tuple #[.agg #[.string ⟨#[]⟩, .string ⟨#[]⟩], .int .i64 8]) (by simp [results, Tryz.results21, go_sem, qc0, qc1]) rfl ⟨ret_val (by rw [HE.out]; rfl), hbw9⟩
  have hk2 : (x.k != 2) = false := by simpa using hk
  have HK := Lib.hid hk
  clear hk
  go_wp2_with fail
  refine (vcheck_any x A c w.heap.size W hn hs (HR.out.below hbw) (by omega)).mono ?_
  rintro e w1 ⟨rfl, hb1⟩
  have hbw := hbw.trans (hb1.mono hbw.size)
  have B0 := B0.below hb1 B0.lt
  have B1 := B1.below hb1 B1.lt
  clear hb1 vc0 vc1 vc2 vc3 rc0 rz0 rc1 rz1
  obtain ⟨f, hf⟩ : ∃ f, checkV x = f := ⟨_, rfl⟩
  have HF := Lib.hid hf
  rw [hf]
  clear hf
  have vc0 : w1.cell? ⟨w.heap.size, 0, none⟩ = some (.int .i64 x.k) := B0.cell 0
  have vc1 : w1.cell? ⟨w.heap.size, 1, none⟩ = some (.int .i64 x.n) := B0.cell 1
  have vc2 : w1.cell? ⟨w.heap.size, 2, none⟩ = some (.string x.s) := B0.cell 2
  have vc3 : w1.cell? ⟨w.heap.size, 3, none⟩ = some (.slice A x.l.length c) := B0.cell 3
  have rc0 : w1.cell? ⟨w.heap.size + 1, 0, none⟩ = some (.string ⟨#[]⟩) := B1.cell 0
  have rz0 : w1.frozen? ⟨w.heap.size + 1, 0, none⟩ = false := B1.frozen 0
  have rc1 : w1.cell? ⟨w.heap.size + 1, 1, none⟩ = some (.string ⟨#[]⟩) := B1.cell 1
  have rz1 : w1.frozen? ⟨w.heap.size + 1, 1, none⟩ = false := B1.frozen 1
  by_cases h0 : f = 0
  rotate_left
  · have hne : (f != 0) = true := by simpa using h0
    have HE := Lib.hid (exactR_no (x := x) (.inr (by rw [HF.out]; exact h0)))
    clear h0
    go_wp2
    obtain ⟨W9, hW9⟩ : ∃ W9, W9 = (w1.setCell ⟨w.heap.size + 1, 0, none⟩ (.string ⟨#[]⟩)).setCell ⟨w.heap.size + 1, 1, none⟩ (.string ⟨#[]⟩) := ⟨_, rfl⟩
    have B9 : Blk W9 (w.heap.size + 1) 23 #[.string ⟨#[]⟩, .string ⟨#[]⟩] := hW9 ▸ B1.store2 _ _
    have hbw9 : Below w.heap.size w W9 := hW9 ▸ hbw.store2 (by omega) _ _
    rw [← hW9]
    clear hW9
    have qc0 : W9.cell? ⟨w.heap.size + 1, 0, none⟩ = some (.string ⟨#[]⟩) := B9.cell 0
    have qc1 : W9.cell? ⟨w.heap.size + 1, 1, none⟩ = some (.string ⟨#[]⟩) := B9.cell 1
    refine bodyPost_ret (v := .tuple #[.agg #[.string ⟨#[]⟩, .string ⟨#[]⟩], .int .i64 8]) (by simp [results, Tryz.results21, go_sem, qc0, qc1]) rfl ⟨ret_val (by rw [HE.out]; rfl), hbw9⟩
  subst h0
  have HE := Lib.hid (exactR_ok HK.out HF.out)
  clear rc0 rz0 rc1 rz1
  go_wp2_with fail
  refine (ratioOf_any x.n 10000 w1 h1 h2 (by omega) (by omega) (HT.out.below hbw)).mono ?_
  obtain ⟨S1, S2, k, hq, hv⟩ := outV_parts (ratioI x.n 10000)
  have HV := Lib.hid hv
  rw [hv]
  clear hv hq
  rintro e w2 ⟨rfl, hb2⟩
  have hbw := hbw.trans (hb2.mono hbw.size)
  have B1 := B1.below hb2 B1.lt
  clear hb2 vc0 vc1 vc2 vc3 hk2
  have rc0 : w2.cell? ⟨w.heap.size + 1, 0, none⟩ = some (.string ⟨#[]⟩) := B1.cell 0
  have rz0 : w2.frozen? ⟨w.heap.size + 1, 0, none⟩ = false := B1.frozen 0
  have rc1 : w2.cell? ⟨w.heap.size + 1, 1, none⟩ = some (.string ⟨#[]⟩) := B1.cell 1
  have rz1 : w2.frozen? ⟨w.heap.size + 1, 1, none⟩ = false := B1.frozen 1
  go_wp2
  obtain ⟨W9, hW9⟩ : ∃ W9, W9 = (w2.setCell ⟨w.heap.size + 1, 0, none⟩ (.string S1)).setCell ⟨w.heap.size + 1, 1, none⟩ (.string S2) := ⟨_, rfl⟩
  have B9 : Blk W9 (w.heap.size + 1) 23 #[.string S1, .string S2] := hW9 ▸ B1.store2 _ _
  have hbw9 : Below w.heap.size w W9 := hW9 ▸ hbw.store2 (by omega) _ _
  rw [← hW9]
  clear hW9
  have qc0 : W9.cell? ⟨w.heap.size + 1, 0, none⟩ = some (.string S1) := B9.cell 0
  have qc1 : W9.cell? ⟨w.heap.size + 1, 1, none⟩ = some (.string S2) := B9.cell 1
  refine bodyPost_ret (v := .tuple #[.agg #[.string S1, .string S2], .int .i64 (k : Nat)]) (by simp [results, Tryz.results21, go_sem, qc0, qc1]) rfl ⟨ret_val (by rw [HE.out, HV.out]), hbw9⟩
set_option maxHeartbeats 2000000 in
set_option maxRecDepth 100000 in
theorem rExact_any (x : Val) (A : Option Addr) (c : Nat) (w : World) (hn : x.l.length ≤ maxLen) (hs : x.s.size ≤ maxLen) (hx : Reads w w.heap.size 1 A x.l.length (numV .i64 x.l))
    (h1 : -9223372036854775808 ≤ x.n) (h2 : x.n ≤ 9223372036854775807) (htab : Tab w) :
    Calls Tryz.prog 22 #[.agg #[.int .i64 x.k, .int .i64 x.n, .string x.s, .slice A x.l.length c]] w fun e w' => e = .returned (outV (exactR x)) ∧ Below w.heap.size w w' := by
  have HT := Lib.hid htab
  have HR := Lib.hid hx
  clear htab hx
  go_enter Tryz.func22, Tryz.ntmps22
  go_upto_region 1 with (fail)
  obtain ⟨W, hW⟩ : ∃ W, W = ((w.alloc (.cells #[.int .i64 x.k, .int .i64 x.n, .string x.s, .slice A x.l.length c] 35 (0, 0))).alloc (.cells #[.string ⟨#[]⟩, .string ⟨#[]⟩] 23 (0, 0))) := ⟨_, rfl⟩
  have hbw : Below w.heap.size w W := by rw [hW]; exact (((Below.refl _ w).alloc (Nat.le_refl _) _).alloc (by simp) _)
  have B0 : Blk W (w.heap.size) 35 #[.int .i64 x.k, .int .i64 x.n, .string x.s, .slice A x.l.length c] := by
    rw [hW]
    have := Blk.new w 35 #[.int .i64 x.k, .int .i64 x.n, .string x.s, .slice A x.l.length c]
    have := this.alloc (.cells #[.string ⟨#[]⟩, .string ⟨#[]⟩] 23 (0, 0))
    exact this
  have B1 : Blk W (w.heap.size + 1) 23 #[.string ⟨#[]⟩, .string ⟨#[]⟩] := by
    rw [hW]
    have := Blk.new (w.alloc (.cells #[.int .i64 x.k, .int .i64 x.n, .string x.s, .slice A x.l.length c] 35 (0, 0))) 23 #[.string ⟨#[]⟩, .string ⟨#[]⟩]
    rwa [World.size_alloc] at this
  have hsz : W.heap.size = w.heap.size + 2 := by rw [hW]; simp
  rw [← hW]
  clear hW
  have vc0 : W.cell? ⟨w.heap.size, 0, none⟩ = some (.int .i64 x.k) := B0.cell 0
  have vc1 : W.cell? ⟨w.heap.size, 1, none⟩ = some (.int .i64 x.n) := B0.cell 1
  have vc2 : W.cell? ⟨w.heap.size, 2, none⟩ = some (.string x.s) := B0.cell 2
  have vc3 : W.cell? ⟨w.heap.size, 3, none⟩ = some (.slice A x.l.length c) := B0.cell 3
  have rc0 : W.cell? ⟨w.heap.size + 1, 0, none⟩ = some (.string ⟨#[]⟩) := B1.cell 0
  have rz0 : W.frozen? ⟨w.heap.size + 1, 0, none⟩ = false := B1.frozen 0
  have rc1 : W.cell? ⟨w.heap.size + 1, 1, none⟩ = some (.string ⟨#[]⟩) := B1.cell 1
  have rz1 : W.frozen? ⟨w.heap.size + 1, 1, none⟩ = false := B1.frozen 1
  by_cases hk : x.k = 2
  rotate_left
  · have hk2 : (x.k != 2) = true := by simpa using hk
    have HE := Lib.hid (exactR_no (.inl hk))
    clear hk
    go_wp2
    obtain ⟨W9, hW9⟩ : ∃ W9, W9 = (W.setCell ⟨w.heap.size + 1, 0, none⟩ (.string ⟨#[]⟩)).setCell ⟨w.heap.size + 1, 1, none⟩ (.string ⟨#[]⟩) := ⟨_, rfl⟩
    have B9 : Blk W9 (w.heap.size + 1) 23 #[.string ⟨#[]⟩, .string ⟨#[]⟩] := hW9 ▸ B1.store2 _ _
    have hbw9 : Below w.heap.size w W9 := hW9 ▸ hbw.store2 (by omega) _ _
    rw [← hW9]
    clear hW9
    have qc0 : W9.cell? ⟨w.heap.size + 1, 0, none⟩ = some (.string ⟨#[]⟩) := B9.cell 0
    have qc1 : W9.cell? ⟨w.heap.size + 1, 1, none⟩ = some (.string ⟨#[]⟩) := B9.cell 1
    refine bodyPost_ret (v := .tuple #[.agg #[.string ⟨#[]⟩, .string ⟨#[]⟩], .int .i64 8]) (by simp [results, Tryz.results22, go_sem, qc0, qc1]) rfl ⟨ret_val (by rw [HE.out]; rfl), hbw9⟩
  have hk2 : (x.k != 2) = false := by simpa using hk
  have HK := Lib.hid hk
  clear hk
  go_wp2_with fail
  refine (vrcheck_any x A c w.heap.size W hn hs (HR.out.below hbw) (by omega)).mono ?_
  rintro e w1 ⟨rfl, hb1⟩
  have hbw := hbw.trans (hb1.mono hbw.size)
  have B0 := B0.below hb1 B0.lt
  have B1 := B1.below hb1 B1.lt
  clear hb1 vc0 vc1 vc2 vc3 rc0 rz0 rc1 rz1
  obtain ⟨f, hf⟩ : ∃ f, checkV x = f := ⟨_, rfl⟩
  have HF := Lib.hid hf
  rw [hf]
  clear hf
  have vc0 : w1.cell? ⟨w.heap.size, 0, none⟩ = some (.int .i64 x.k) := B0.cell 0
  have vc1 : w1.cell? ⟨w.heap.size, 1, none⟩ = some (.int .i64 x.n) := B0.cell 1
  have vc2 : w1.cell? ⟨w.heap.size, 2, none⟩ = some (.string x.s) := B0.cell 2
  have vc3 : w1.cell? ⟨w.heap.size, 3, none⟩ = some (.slice A x.l.length c) := B0.cell 3
  have rc0 : w1.cell? ⟨w.heap.size + 1, 0, none⟩ = some (.string ⟨#[]⟩) := B1.cell 0
  have rz0 : w1.frozen? ⟨w.heap.size + 1, 0, none⟩ = false := B1.frozen 0
  have rc1 : w1.cell? ⟨w.heap.size + 1, 1, none⟩ = some (.string ⟨#[]⟩) := B1.cell 1
  have rz1 : w1.frozen? ⟨w.heap.size + 1, 1, none⟩ = false := B1.frozen 1
  by_cases h0 : f = 0
  rotate_left
  · have hne : (f != 0) = true := by simpa using h0
    have HE := Lib.hid (exactR_no (x := x) (.inr (by rw [HF.out]; exact h0)))
    clear h0
    go_wp2
    obtain ⟨W9, hW9⟩ : ∃ W9, W9 = (w1.setCell ⟨w.heap.size + 1, 0, none⟩ (.string ⟨#[]⟩)).setCell ⟨w.heap.size + 1, 1, none⟩ (.string ⟨#[]⟩) := ⟨_, rfl⟩
    have B9 : Blk W9 (w.heap.size + 1) 23 #[.string ⟨#[]⟩, .string ⟨#[]⟩] := hW9 ▸ B1.store2 _ _
    have hbw9 : Below w.heap.size w W9 := hW9 ▸ hbw.store2 (by omega) _ _
    rw [← hW9]
    clear hW9
    have qc0 : W9.cell? ⟨w.heap.size + 1, 0, none⟩ = some (.string ⟨#[]⟩) := B9.cell 0
    have qc1 : W9.cell? ⟨w.heap.size + 1, 1, none⟩ = some (.string ⟨#[]⟩) := B9.cell 1
    refine bodyPost_ret (v := .tuple #[.agg #[.string ⟨#[]⟩, .string ⟨#[]⟩], .int .i64 8]) (by simp [results, Tryz.results22, go_sem, qc0, qc1]) rfl ⟨ret_val (by rw [HE.out]; rfl), hbw9⟩
  subst h0
  have HE := Lib.hid (exactR_ok HK.out HF.out)
  clear rc0 rz0 rc1 rz1
  go_wp2_with fail
  refine (rratioOf_any x.n 10000 w1 h1 h2 (by omega) (by omega) (HT.out.below hbw)).mono ?_
  obtain ⟨S1, S2, k, hq, hv⟩ := outV_parts (ratioI x.n 10000)
  have HV := Lib.hid hv
  rw [hv]
  clear hv hq
  rintro e w2 ⟨rfl, hb2⟩
  have hbw := hbw.trans (hb2.mono hbw.size)
  have B1 := B1.below hb2 B1.lt
  clear hb2 vc0 vc1 vc2 vc3 hk2
  have rc0 : w2.cell? ⟨w.heap.size + 1, 0, none⟩ = some (.string ⟨#[]⟩) := B1.cell 0
  have rz0 : w2.frozen? ⟨w.heap.size + 1, 0, none⟩ = false := B1.frozen 0
  have rc1 : w2.cell? ⟨w.heap.size + 1, 1, none⟩ = some (.string ⟨#[]⟩) := B1.cell 1
  have rz1 : w2.frozen? ⟨w.heap.size + 1, 1, none⟩ = false := B1.frozen 1
  go_wp2
  obtain ⟨W9, hW9⟩ : ∃ W9, W9 = (w2.setCell ⟨w.heap.size + 1, 0, none⟩ (.string S1)).setCell ⟨w.heap.size + 1, 1, none⟩ (.string S2) := ⟨_, rfl⟩
  have B9 : Blk W9 (w.heap.size + 1) 23 #[.string S1, .string S2] := hW9 ▸ B1.store2 _ _
  have hbw9 : Below w.heap.size w W9 := hW9 ▸ hbw.store2 (by omega) _ _
  rw [← hW9]
  clear hW9
  have qc0 : W9.cell? ⟨w.heap.size + 1, 0, none⟩ = some (.string S1) := B9.cell 0
  have qc1 : W9.cell? ⟨w.heap.size + 1, 1, none⟩ = some (.string S2) := B9.cell 1
  refine bodyPost_ret (v := .tuple #[.agg #[.string S1, .string S2], .int .i64 (k : Nat)]) (by simp [results, Tryz.results22, go_sem, qc0, qc1]) rfl ⟨ret_val (by rw [HE.out, HV.out]), hbw9⟩
end Go.Proofs.YtmpelpmhbadjoaaGreatDoor
