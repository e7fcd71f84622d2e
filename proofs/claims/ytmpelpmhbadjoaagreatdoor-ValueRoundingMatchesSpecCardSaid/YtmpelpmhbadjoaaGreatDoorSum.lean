/- The walks of Sum, Product, Inverse, Order: what they answer is what Rtx says of the texts. -/
import Derived.Test.YtmpelpmhbadjoaaGreatDoorPlus
namespace Go.Proofs.YtmpelpmhbadjoaaGreatDoor
open Go.RowKit Limb Dig Rtx

/-- a ratio and a fault, as a value -/
def ratV (a : R) : Value := .agg #[.string ⟨a.n.toArray⟩, .string ⟨a.d.toArray⟩]
def outV (p : R × Nat) : Value := .tuple #[ratV p.1, .int .i64 (p.2 : Nat)]
theorem ratioE_out {neg : Bool} {x y : Nat} (hy : 0 < y) : ratioE neg x y = outV (outR (ratQ neg x y)) := by
  obtain ⟨h1, h2, h3⟩ := ratQ_low neg x y hy
  have hb : bigT x y ↔ bigR (ratQ neg x y) := by unfold bigT bigR denT denS; rw [h1, h2]
  unfold ratioE outR
  by_cases h : bigT x y
  · rw [if_pos h, if_pos (hb.1 h)]; rfl
  · rw [if_neg h, if_neg (fun h' => h (hb.2 h'))]
    have e1 : numT neg x y = numS (ratQ neg x y) := by
      unfold numT numS
      rw [h1]
      congr 1
      by_cases hn : neg = true ∧ 0 < x
      · rw [if_pos (by simp [hn.1, hn.2]), if_pos (h3.2 hn)]
      · rw [if_neg (by simp; intro hn1; rcases Nat.eq_zero_or_pos x with h0 | h0; exact h0; exact absurd ⟨hn1, h0⟩ hn), if_neg (fun h' => hn (h3.1 h'))]
    have e2 : denT x y = denS (ratQ neg x y) := by unfold denT denS; rw [h2]
    rw [e1, e2]; rfl
theorem ratio_q (w : World) (L x y : Nat) (v : Value) (neg : Bool) (q : Rat) (h : Frac w L v neg x y) (hq : ratQ neg x y = q) (hL : L ≤ 100000) (htab : Tab w) :
    Calls Tryz.prog 25 #[v] w fun e w' => (∃ S1 S2 k, e = .returned (.tuple #[.agg #[.string S1, .string S2], .int .i64 k]) ∧ outV (outR q) = .tuple #[.agg #[.string S1, .string S2], .int .i64 k]) ∧ Below w.heap.size w w' :=
  (ratio_any w L x y v neg h hL htab).mono fun e w' ⟨he, hb⟩ => by
    obtain ⟨_, _, _, _, _, hy⟩ := h.ex
    rw [ratioE_out hy, hq] at he
    exact ⟨⟨_, _, _, he, rfl⟩, hb⟩
theorem valR_of {a : R} : ratQ (cutN a.n).2 (digVal (cutN a.n).1) (digVal a.d) = valR a := rfl
theorem Blk.store2 {w : World} {g T : Nat} {a0 a1 : Value} (B : Blk w g T #[a0, a1]) (b0 b1 : Value) : Blk ((w.setCell ⟨g, 0, none⟩ b0).setCell ⟨g, 1, none⟩ b1) g T #[b0, b1] :=
  (B.set_ 0 _).set_ 1 _
theorem _root_.Go.RowKit.Below.store2 {w W : World} {B g : Nat} (h : Below B w W) (hg : B ≤ g) (b0 b1 : Value) : Below B w ((W.setCell ⟨g, 0, none⟩ b0).setCell ⟨g, 1, none⟩ b1) :=
  (h.setCell (p := ⟨g, 0, none⟩) hg _).setCell (p := ⟨g, 1, none⟩) hg _
set_option maxHeartbeats 2000000 in
set_option maxRecDepth 100000 in
theorem Sum_any (n d n' d' : ByteArray) (w : World) (hn : n.size ≤ maxLen) (hd : d.size ≤ maxLen) (hn' : n'.size ≤ maxLen) (hd' : d'.size ≤ maxLen) (htab : Tab w) :
    Calls Tryz.prog 9 #[.agg #[.string n, .string d], .agg #[.string n', .string d']] w fun e w' => e = .returned (outV (sumR (rx n d) (rx n' d'))) ∧ Below w.heap.size w w' := by
  have HT := Lib.hid htab
  clear htab
  go_enter Tryz.func9, Tryz.ntmps9
  go_wp2_with fail
  obtain ⟨W, hW⟩ : ∃ W, W = (((w.alloc (.cells #[.string n, .string d] 23 (0, 0))).alloc (.cells #[.string n', .string d'] 23 (0, 0))).alloc (.cells #[.string ⟨#[]⟩, .string ⟨#[]⟩] 23 (0, 0))) := ⟨_, rfl⟩
  have hbw : Below w.heap.size w W := by rw [hW]; exact ((((Below.refl _ w).alloc (Nat.le_refl _) _).alloc (by simp) _).alloc (by simp; omega) _)
  have B0 : Blk W (w.heap.size) 23 #[.string n, .string d] := by
    rw [hW]
    have := Blk.new w 23 #[.string n, .string d]
    have := this.alloc (.cells #[.string n', .string d'] 23 (0, 0))
    have := this.alloc (.cells #[.string ⟨#[]⟩, .string ⟨#[]⟩] 23 (0, 0))
    exact this
  have B1 : Blk W (w.heap.size + 1) 23 #[.string n', .string d'] := by
    rw [hW]
    have := Blk.new (w.alloc (.cells #[.string n, .string d] 23 (0, 0))) 23 #[.string n', .string d']
    have := this.alloc (.cells #[.string ⟨#[]⟩, .string ⟨#[]⟩] 23 (0, 0))
    rwa [World.size_alloc] at this
  have B2 : Blk W (w.heap.size + 2) 23 #[.string ⟨#[]⟩, .string ⟨#[]⟩] := by
    rw [hW]
    have := Blk.new ((w.alloc (.cells #[.string n, .string d] 23 (0, 0))).alloc (.cells #[.string n', .string d'] 23 (0, 0))) 23 #[.string ⟨#[]⟩, .string ⟨#[]⟩]
    rwa [World.size_alloc, World.size_alloc] at this
  have hsz : W.heap.size = w.heap.size + 3 := by rw [hW]; simp
  rw [← hW]
  clear hW
  refine (two_any n d n' d' W hn hd hn' hd').mono ?_
  rintro e w1 ⟨htv, hb1⟩
  obtain ⟨u, v, rfl, hok, ⟨bu, A1, n1, c1, A2, n2, c2, rfl⟩, ⟨bv, A3, n3, c3, A4, n4, c4, rfl⟩⟩ := htv.ex
  have HOK := Lib.hid hok
  clear hok htv
  have hbw := hbw.trans (hb1.mono hbw.size)
  have hs1 := hb1.size
  have B2 := B2.below hb1 B2.lt
  obtain ⟨f, hf⟩ : ∃ f, fltT (rx n d) (rx n' d') = f := ⟨_, rfl⟩
  have HF := Lib.hid hf
  rw [hf]
  clear hf hb1
  go_upto_if 17 with (fail)
  obtain ⟨W2, hW2⟩ : ∃ W2, W2 = (w1.alloc (.cells #[.bool bu, .slice A1 n1 c1, .slice A2 n2 c2] 47 (0, 0))).alloc (.cells #[.bool bv, .slice A3 n3 c3, .slice A4 n4 c4] 47 (0, 0)) := ⟨_, rfl⟩
  have hb2 : Below w1.heap.size w1 W2 := hW2 ▸ ((Below.refl _ w1).alloc (Nat.le_refl _) _).alloc (by simp) _
  have B3 : Blk W2 w1.heap.size 47 #[.bool bu, .slice A1 n1 c1, .slice A2 n2 c2] := by
    rw [hW2]
    exact (Blk.new w1 47 #[.bool bu, .slice A1 n1 c1, .slice A2 n2 c2]).alloc _
  have B4 : Blk W2 (w1.heap.size + 1) 47 #[.bool bv, .slice A3 n3 c3, .slice A4 n4 c4] := by
    rw [hW2]
    have := Blk.new (w1.alloc (.cells #[.bool bu, .slice A1 n1 c1, .slice A2 n2 c2] 47 (0, 0))) 47 #[.bool bv, .slice A3 n3 c3, .slice A4 n4 c4]
    rwa [World.size_alloc] at this
  rw [← hW2]
  clear hW2
  have hbw := hbw.trans (hb2.mono hbw.size)
  have B2 := B2.below hb2 B2.lt
  have rc0 : W2.cell? ⟨w.heap.size + 2, 0, none⟩ = some (.string ⟨#[]⟩) := B2.cell 0
  have rz0 : W2.frozen? ⟨w.heap.size + 2, 0, none⟩ = false := B2.frozen 0
  have rc1 : W2.cell? ⟨w.heap.size + 2, 1, none⟩ = some (.string ⟨#[]⟩) := B2.cell 1
  have rz1 : W2.frozen? ⟨w.heap.size + 2, 1, none⟩ = false := B2.frozen 1
  have uc0 : W2.cell? ⟨w1.heap.size, 0, none⟩ = some (.bool bu) := B3.cell 0
  have uc1 : W2.cell? ⟨w1.heap.size, 1, none⟩ = some (.slice A1 n1 c1) := B3.cell 1
  have uc2 : W2.cell? ⟨w1.heap.size, 2, none⟩ = some (.slice A2 n2 c2) := B3.cell 2
  have vc0 : W2.cell? ⟨w1.heap.size + 1, 0, none⟩ = some (.bool bv) := B4.cell 0
  have vc1 : W2.cell? ⟨w1.heap.size + 1, 1, none⟩ = some (.slice A3 n3 c3) := B4.cell 1
  have vc2 : W2.cell? ⟨w1.heap.size + 1, 2, none⟩ = some (.slice A4 n4 c4) := B4.cell 2
  by_cases h0 : f = 0
  rotate_left
  · have hne : (((f : Nat) : Int) != 0) = true := by simp; omega
    have HE := Lib.hid (show outV (sumR (rx n d) (rx n' d')) = .tuple #[.agg #[.string ⟨#[]⟩, .string ⟨#[]⟩], .int .i64 (f : Nat)] by
      have hf := HF.out
      unfold fltT at hf
      unfold sumR
      by_cases h1 : fltR (rx n d) = 0
      · rw [if_neg (by simp [h1])] at hf
        rw [if_neg (by simp [h1]), if_pos (by rw [hf]; exact h0), hf]; rfl
      · rw [if_pos h1] at hf
        rw [if_pos h1, hf]; rfl)
    go_wp2
    obtain ⟨W9, hW9⟩ : ∃ W9, W9 = (W2.setCell ⟨w.heap.size + 2, 0, none⟩ (.string ⟨#[]⟩)).setCell ⟨w.heap.size + 2, 1, none⟩ (.string ⟨#[]⟩) := ⟨_, rfl⟩
    have B9 : Blk W9 (w.heap.size + 2) 23 #[.string ⟨#[]⟩, .string ⟨#[]⟩] := hW9 ▸ B2.store2 _ _
    have hbw9 : Below w.heap.size w W9 := hW9 ▸ hbw.store2 (by omega) _ _
    rw [← hW9]
    clear hW9
    have qc0 : W9.cell? ⟨w.heap.size + 2, 0, none⟩ = some (.string ⟨#[]⟩) := B9.cell 0
    have qc1 : W9.cell? ⟨w.heap.size + 2, 1, none⟩ = some (.string ⟨#[]⟩) := B9.cell 1
    refine bodyPost_ret (v := .tuple #[.agg #[.string ⟨#[]⟩, .string ⟨#[]⟩], .int .i64 ((f : Nat) : Int)]) (by simp [results, Tryz.results9, go_sem, qc0, qc1]) rfl ⟨ret_val (HE.out.symm), hbw9⟩
  subst h0
  have HFF := Lib.hid (show fltR (rx n d) = 0 ∧ fltR (rx n' d') = 0 by
    have hf := HF.out
    unfold fltT at hf
    by_cases h1 : fltR (rx n d) = 0
    · rw [if_neg (by simp [h1])] at hf
      exact ⟨h1, hf⟩
    · rw [if_pos h1] at hf
      exact absurd hf h1)
  have HE := Lib.hid (show sumR (rx n d) (rx n' d') = outR (valR (rx n d) + valR (rx n' d')) by
    unfold sumR
    rw [if_neg (by simp [HFF.out.1]), if_neg (by simp [HFF.out.2])])
  go_wp2_with fail
  refine (plus_any W2 223 _ _ _ _ _ _ _ _ (((HOK.out HFF.out.1).1.below hb2).ok HFF.out.1) (((HOK.out HFF.out.1).2.below hb2).ok HFF.out.2) (by omega)).mono ?_
  rintro e w3 ⟨hpv, hb3⟩
  obtain ⟨r, b, x, y, rfl, hfr, hq⟩ := hpv.ex
  have HFR := Lib.hid hfr
  have HQ := Lib.hid (hq.trans (show _ = valR (rx n d) + valR (rx n' d') from rfl))
  have hbw := hbw.trans (hb3.mono hbw.size)
  have B2 := B2.below hb3 B2.lt
  clear hfr hq hpv rc0 rz0 rc1 rz1 uc0 uc1 uc2 vc0 vc1 vc2
  go_wp2_with fail
  refine (ratio_q w3 _ x y r b _ HFR.out HQ.out (by omega) (HT.out.below hbw)).mono ?_
  rintro e w4 ⟨⟨S1, S2, k, rfl, hout⟩, hb4⟩
  have HO := Lib.hid hout
  have hbw := hbw.trans (hb4.mono hbw.size)
  have B2 := B2.below hb4 B2.lt
  clear hout
  have rc0 : w4.cell? ⟨w.heap.size + 2, 0, none⟩ = some (.string ⟨#[]⟩) := B2.cell 0
  have rz0 : w4.frozen? ⟨w.heap.size + 2, 0, none⟩ = false := B2.frozen 0
  have rc1 : w4.cell? ⟨w.heap.size + 2, 1, none⟩ = some (.string ⟨#[]⟩) := B2.cell 1
  have rz1 : w4.frozen? ⟨w.heap.size + 2, 1, none⟩ = false := B2.frozen 1
  go_wp2
  obtain ⟨W9, hW9⟩ : ∃ W9, W9 = (w4.setCell ⟨w.heap.size + 2, 0, none⟩ (.string S1)).setCell ⟨w.heap.size + 2, 1, none⟩ (.string S2) := ⟨_, rfl⟩
  have B9 : Blk W9 (w.heap.size + 2) 23 #[.string S1, .string S2] := hW9 ▸ B2.store2 _ _
  have hbw9 : Below w.heap.size w W9 := hW9 ▸ hbw.store2 (by omega) _ _
  rw [← hW9]
  clear hW9
  have qc0 : W9.cell? ⟨w.heap.size + 2, 0, none⟩ = some (.string S1) := B9.cell 0
  have qc1 : W9.cell? ⟨w.heap.size + 2, 1, none⟩ = some (.string S2) := B9.cell 1
  refine bodyPost_ret (v := .tuple #[.agg #[.string S1, .string S2], .int .i64 k]) (by simp [results, Tryz.results9, go_sem, qc0, qc1]) rfl ⟨ret_val (by rw [HE.out, HO.out]), hbw9⟩

end Go.Proofs.YtmpelpmhbadjoaaGreatDoor
