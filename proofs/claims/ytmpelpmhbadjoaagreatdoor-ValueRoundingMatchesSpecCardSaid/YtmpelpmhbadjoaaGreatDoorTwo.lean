/- The walk of two: the fractions of two ratios. -/
import Derived.Test.YtmpelpmhbadjoaaGreatDoorFrac2
import Derived.Deep.QuietTactic
import Derived.BigQuiet
namespace Go.Proofs.YtmpelpmhbadjoaaGreatDoor
open Go.RowKit Limb Dig Rtx

/-- three cells stored over three -/
theorem Blk.store3 {w : World} {g T : Nat} {a0 a1 a2 : Value} (B : Blk w g T #[a0, a1, a2]) (b0 b1 b2 : Value) : Blk (((w.setCell ⟨g, 0, none⟩ b0).setCell ⟨g, 1, none⟩ b1).setCell ⟨g, 2, none⟩ b2) g T #[b0, b1, b2] :=
  ((B.set_ 0 _).set_ 1 _).set_ 2 _
theorem Blk.self {w : World} {g T i : Nat} {cs : Array Value} {v : Value} (B : Blk w g T cs) (h : cs[i]? = some v) : w.setCell ⟨g, i, none⟩ v = w := by
  have e : cs.setIfInBounds i v = cs := by
    apply Array.ext_getElem?
    intro k
    rw [Array.getElem?_setIfInBounds]
    split
    · rename_i hk; subst hk
      split
      · exact h.symm
      · rename_i hl; rw [Array.getElem?_eq_none (by omega)]
    · rfl
  have hh : (w.setCell ⟨g, i, none⟩ v).heap = w.heap := by
    apply Array.ext_getElem?
    intro k
    by_cases hk : g = k
    · subst hk
      have := B.set_ i v
      unfold Blk at this B
      rw [this, B, e]
    · exact Below.heap_setCell w ⟨g, i, none⟩ v k (fun h => hk h.symm)
  show { w with heap := (w.setCell ⟨g, i, none⟩ v).heap } = w
  rw [hh]
theorem _root_.Go.RowKit.Below.store3 {w W : World} {B g : Nat} (h : Below B w W) (hg : B ≤ g) (b0 b1 b2 : Value) : Below B w (((W.setCell ⟨g, 0, none⟩ b0).setCell ⟨g, 1, none⟩ b1).setCell ⟨g, 2, none⟩ b2) :=
  ((h.setCell (p := ⟨g, 0, none⟩) hg _).setCell (p := ⟨g, 1, none⟩) hg _).setCell (p := ⟨g, 2, none⟩) hg _
theorem Blk.far3 {w : World} {g g' t : Nat} {cs : Array Value} (B : Blk w g t cs) (hne : g ≠ g') (b0 b1 b2 : Value) : Blk (((w.setCell ⟨g', 0, none⟩ b0).setCell ⟨g', 1, none⟩ b1).setCell ⟨g', 2, none⟩ b2) g t cs :=
  ((B.far (p := ⟨g', 0, none⟩) hne _).far (p := ⟨g', 1, none⟩) hne _).far (p := ⟨g', 2, none⟩) hne _
/-- a fraction's value survives a store over another fraction's box -/
theorem FrV.store3 {w : World} {g : Nat} {v : Value} {a : R} {bb : Bool} {A1 A2 : Option Addr} {n1 n2 k1 k2 : Nat} (h : FrV w v a) (B : Blk w g 47 #[.bool bb, .slice A1 n1 k1, .slice A2 n2 k2]) (b0 b1 b2 : Value) :
    FrV (((w.setCell ⟨g, 0, none⟩ b0).setCell ⟨g, 1, none⟩ b1).setCell ⟨g, 2, none⟩ b2) v a := by
  refine ⟨fun h0 => ?_, h.no⟩
  obtain ⟨n, d, e, hn, hd, hy⟩ := (h.ok h0).ex
  have e0 : w.cell? ⟨g, 0, none⟩ = some (.bool bb) := B.cell 0
  have e1 : (w.setCell ⟨g, 0, none⟩ b0).cell? ⟨g, 1, none⟩ = some (.slice A1 n1 k1) := (B.set_ 0 _).cell 1
  have e2 : ((w.setCell ⟨g, 0, none⟩ b0).setCell ⟨g, 1, none⟩ b1).cell? ⟨g, 2, none⟩ = some (.slice A2 n2 k2) := ((B.set_ 0 _).set_ 1 _).cell 2
  exact ⟨⟨n, d, e, ((hn.box e0 _).box e1 _).box e2 _, ((hd.box e0 _).box e1 _).box e2 _, hy⟩⟩
theorem FrV.below {w w' : World} {v : Value} {a : R} (h : FrV w v a) (hb : Below w.heap.size w w') : FrV w' v a := by
  refine ⟨fun h0 => ?_, h.no⟩
  obtain ⟨n, d, e, hn, hd, hy⟩ := (h.ok h0).ex
  exact ⟨⟨n, d, e, hn.below hb, hd.below hb, hy⟩⟩
/-- what two hands back: both fractions, or a fault -/
noncomputable def fltT (a b : R) : Nat := if fltR a ≠ 0 then fltR a else fltR b
structure TwoV (w : World) (e : Ending) (a b : R) : Prop where
  ex : ∃ u v, e = .returned (.tuple #[u, v, .int .i64 (fltT a b : Nat)]) ∧ (fltR a = 0 → FrV w u a ∧ FrV w v b) ∧ (∃ b1 A1 n1 c1 A2 n2 c2, u = .agg #[.bool b1, .slice A1 n1 c1, .slice A2 n2 c2]) ∧ (∃ b1 A1 n1 c1 A2 n2 c2, v = .agg #[.bool b1, .slice A1 n1 c1, .slice A2 n2 c2])
set_option maxHeartbeats 2000000 in
set_option maxRecDepth 100000 in
theorem two_any (n d n' d' : ByteArray) (w : World) (hn : n.size ≤ maxLen) (hd : d.size ≤ maxLen) (hn' : n'.size ≤ maxLen) (hd' : d'.size ≤ maxLen) :
    Calls Tryz.prog 34 #[.agg #[.string n, .string d], .agg #[.string n', .string d']] w fun e w' => TwoV w' e (rx n d) (rx n' d') ∧ Below w.heap.size w w' := by
  go_enter Tryz.func34, Tryz.ntmps34
  go_wp2_with fail
  obtain ⟨W, hW⟩ : ∃ W, W = (((w.alloc (.cells #[.string n, .string d] 23 (0, 0))).alloc (.cells #[.string n', .string d'] 23 (0, 0))).alloc (.cells #[.bool false, .slice none 0 0, .slice none 0 0] 47 (0, 0))).alloc (.cells #[.bool false, .slice none 0 0, .slice none 0 0] 47 (0, 0)) := ⟨_, rfl⟩
  have hbw : Below w.heap.size w W := by rw [hW]; exact ((((Below.refl _ w).alloc (Nat.le_refl _) _).alloc (by simp) _).alloc (by simp; omega) _).alloc (by simp; omega) _
  have B1 : Blk W (w.heap.size + 1) 23 #[.string n', .string d'] := by
    rw [hW]
    have := (Blk.new (w.alloc (.cells #[.string n, .string d] 23 (0, 0))) 23 #[.string n', .string d']).alloc (.cells #[.bool false, .slice none 0 0, .slice none 0 0] 47 (0, 0))
    have := this.alloc (.cells #[.bool false, .slice none 0 0, .slice none 0 0] 47 (0, 0))
    rwa [World.size_alloc] at this
  have B2 : Blk W (w.heap.size + 2) 47 #[.bool false, .slice none 0 0, .slice none 0 0] := by
    rw [hW]
    have := (Blk.new ((w.alloc (.cells #[.string n, .string d] 23 (0, 0))).alloc (.cells #[.string n', .string d'] 23 (0, 0))) 47 #[.bool false, .slice none 0 0, .slice none 0 0]).alloc (.cells #[.bool false, .slice none 0 0, .slice none 0 0] 47 (0, 0))
    rwa [World.size_alloc, World.size_alloc] at this
  have B3 : Blk W (w.heap.size + 3) 47 #[.bool false, .slice none 0 0, .slice none 0 0] := by
    rw [hW]
    have := (Blk.new (((w.alloc (.cells #[.string n, .string d] 23 (0, 0))).alloc (.cells #[.string n', .string d'] 23 (0, 0))).alloc (.cells #[.bool false, .slice none 0 0, .slice none 0 0] 47 (0, 0))) 47 #[.bool false, .slice none 0 0, .slice none 0 0])
    rwa [World.size_alloc, World.size_alloc, World.size_alloc] at this
  rw [← hW]
  clear hW
  refine (fractionOf_any n d W hn hd).mono ?_
  rintro e w1 ⟨⟨u, rfl, hu⟩, hb1⟩
  obtain ⟨bu, A1, n1, c1, A2, n2, c2, rfl⟩ := hu.form
  have HU := Lib.hid hu
  clear hu
  have B1 := B1.below hb1 B1.lt
  have B2 := B2.below hb1 B2.lt
  have B3 := B3.below hb1 B3.lt
  have hbw := hbw.trans (hb1.mono hbw.size)
  clear hb1
  obtain ⟨f, hf⟩ : ∃ f, fltR (rx n d) = f := ⟨_, rfl⟩
  have HF := Lib.hid hf
  rw [hf]
  clear hf
  have f0 : w1.cell? ⟨w.heap.size + 2, 0, none⟩ = some (.bool false) := B2.cell 0
  have f1 : w1.cell? ⟨w.heap.size + 2, 1, none⟩ = some (.slice none 0 0) := B2.cell 1
  have f2 : w1.cell? ⟨w.heap.size + 2, 2, none⟩ = some (.slice none 0 0) := B2.cell 2
  have z0 : w1.frozen? ⟨w.heap.size + 2, 0, none⟩ = false := B2.frozen 0
  have z1 : w1.frozen? ⟨w.heap.size + 2, 1, none⟩ = false := B2.frozen 1
  have z2 : w1.frozen? ⟨w.heap.size + 2, 2, none⟩ = false := B2.frozen 2
  go_upto_if 13 with (fail)
  obtain ⟨W2, hW2⟩ : ∃ W2, W2 = ((w1.setCell ⟨w.heap.size + 2, 0, none⟩ (.bool bu)).setCell ⟨w.heap.size + 2, 1, none⟩ (.slice A1 n1 c1)).setCell ⟨w.heap.size + 2, 2, none⟩ (.slice A2 n2 c2) := ⟨_, rfl⟩
  have HU := Lib.hid (hW2 ▸ HU.out.store3 B2 (.bool bu) (.slice A1 n1 c1) (.slice A2 n2 c2) : FrV W2 (.agg #[.bool bu, .slice A1 n1 c1, .slice A2 n2 c2]) (rx n d))
  have B1 : Blk W2 (w.heap.size + 1) 23 #[.string n', .string d'] := hW2 ▸ B1.far3 (by omega) (.bool bu) (.slice A1 n1 c1) (.slice A2 n2 c2)
  have B3 : Blk W2 (w.heap.size + 3) 47 #[.bool false, .slice none 0 0, .slice none 0 0] := hW2 ▸ B3.far3 (by omega) (.bool bu) (.slice A1 n1 c1) (.slice A2 n2 c2)
  have B2 : Blk W2 (w.heap.size + 2) 47 #[.bool bu, .slice A1 n1 c1, .slice A2 n2 c2] := hW2 ▸ B2.store3 (.bool bu) (.slice A1 n1 c1) (.slice A2 n2 c2)
  have hbw : Below w.heap.size w W2 := hW2 ▸ hbw.store3 (by omega) (.bool bu) (.slice A1 n1 c1) (.slice A2 n2 c2)
  rw [← hW2]
  clear hW2 f0 f1 f2 z0 z1 z2
  by_cases h0 : f = 0
  rotate_left
  · have hne : (((f : Nat) : Int) != 0) = true := by simp; omega
    have HE := Lib.hid (show fltT (rx n d) (rx n' d') = f by unfold fltT; rw [HF.out, if_pos h0])
    have HF0 := Lib.hid (show fltR (rx n d) ≠ 0 by rw [HF.out]; exact h0)
    have uc0 : W2.cell? ⟨w.heap.size + 2, 0, none⟩ = some (.bool bu) := B2.cell 0
    have uz0 : W2.frozen? ⟨w.heap.size + 2, 0, none⟩ = false := B2.frozen 0
    have uk0 : ∀ n, (W2.drewN n).setCell ⟨w.heap.size + 2, 0, none⟩ (.bool bu) = W2.drewN n := fun n => (B2.drewN n).self rfl
    have uc1 : W2.cell? ⟨w.heap.size + 2, 1, none⟩ = some (.slice A1 n1 c1) := B2.cell 1
    have uz1 : W2.frozen? ⟨w.heap.size + 2, 1, none⟩ = false := B2.frozen 1
    have uk1 : ∀ n, (W2.drewN n).setCell ⟨w.heap.size + 2, 1, none⟩ (.slice A1 n1 c1) = W2.drewN n := fun n => (B2.drewN n).self rfl
    have uc2 : W2.cell? ⟨w.heap.size + 2, 2, none⟩ = some (.slice A2 n2 c2) := B2.cell 2
    have uz2 : W2.frozen? ⟨w.heap.size + 2, 2, none⟩ = false := B2.frozen 2
    have uk2 : ∀ n, (W2.drewN n).setCell ⟨w.heap.size + 2, 2, none⟩ (.slice A2 n2 c2) = W2.drewN n := fun n => (B2.drewN n).self rfl
    have vc0 : W2.cell? ⟨w.heap.size + 3, 0, none⟩ = some (.bool false) := B3.cell 0
    have vz0 : W2.frozen? ⟨w.heap.size + 3, 0, none⟩ = false := B3.frozen 0
    have vk0 : ∀ n, (W2.drewN n).setCell ⟨w.heap.size + 3, 0, none⟩ (.bool false) = W2.drewN n := fun n => (B3.drewN n).self rfl
    have vc1 : W2.cell? ⟨w.heap.size + 3, 1, none⟩ = some (.slice none 0 0) := B3.cell 1
    have vz1 : W2.frozen? ⟨w.heap.size + 3, 1, none⟩ = false := B3.frozen 1
    have vk1 : ∀ n, (W2.drewN n).setCell ⟨w.heap.size + 3, 1, none⟩ (.slice none 0 0) = W2.drewN n := fun n => (B3.drewN n).self rfl
    have vc2 : W2.cell? ⟨w.heap.size + 3, 2, none⟩ = some (.slice none 0 0) := B3.cell 2
    have vz2 : W2.frozen? ⟨w.heap.size + 3, 2, none⟩ = false := B3.frozen 2
    have vk2 : ∀ n, (W2.drewN n).setCell ⟨w.heap.size + 3, 2, none⟩ (.slice none 0 0) = W2.drewN n := fun n => (B3.drewN n).self rfl
    go_upto_region 3 with (fail)
    go_quiet (fail)
    go_wp2
    refine bodyPost_ret (v := .tuple #[.agg #[.bool bu, .slice A1 n1 c1, .slice A2 n2 c2], .agg #[.bool false, .slice none 0 0, .slice none 0 0], .int .i64 ((f : Nat) : Int)]) (by simp [results, Tryz.results34, go_sem, uc0, uc1, uc2, vc0, vc1, vc2]) rfl ⟨⟨_, _, by rw [HE.out], fun h => absurd h HF0.out, ⟨_, _, _, _, _, _, _, rfl⟩, ⟨_, _, _, _, _, _, _, rfl⟩⟩, hbw.drewN _⟩
  subst h0
  have b0 : W2.cell? ⟨w.heap.size + 1, 0, none⟩ = some (.string n') := B1.cell 0
  have b1 : W2.cell? ⟨w.heap.size + 1, 1, none⟩ = some (.string d') := B1.cell 1
  go_wp2_with fail
  refine (fractionOf_any n' d' W2 hn' hd').mono ?_
  rintro e w3 ⟨⟨v, rfl, hv⟩, hb3⟩
  obtain ⟨bv, A3, n3, c3, A4, n4, c4, rfl⟩ := hv.form
  have HV := Lib.hid hv
  have HU := Lib.hid (HU.out.below hb3)
  clear hv b0 b1
  have B2 := B2.below hb3 B2.lt
  have B3 := B3.below hb3 B3.lt
  have hbw := hbw.trans (hb3.mono hbw.size)
  clear hb3
  obtain ⟨f, hf⟩ : ∃ f, fltR (rx n' d') = f := ⟨_, rfl⟩
  have HE := Lib.hid (show fltT (rx n d) (rx n' d') = f by unfold fltT; rw [HF.out, hf]; simp)
  rw [hf]
  clear hf
  have vc0 : w3.cell? ⟨w.heap.size + 3, 0, none⟩ = some (.bool false) := B3.cell 0
  have vz0 : w3.frozen? ⟨w.heap.size + 3, 0, none⟩ = false := B3.frozen 0
  have vk0 : ∀ n, (w3.drewN n).setCell ⟨w.heap.size + 3, 0, none⟩ (.bool false) = w3.drewN n := fun n => (B3.drewN n).self rfl
  have vc1 : w3.cell? ⟨w.heap.size + 3, 1, none⟩ = some (.slice none 0 0) := B3.cell 1
  have vz1 : w3.frozen? ⟨w.heap.size + 3, 1, none⟩ = false := B3.frozen 1
  have vk1 : ∀ n, (w3.drewN n).setCell ⟨w.heap.size + 3, 1, none⟩ (.slice none 0 0) = w3.drewN n := fun n => (B3.drewN n).self rfl
  have vc2 : w3.cell? ⟨w.heap.size + 3, 2, none⟩ = some (.slice none 0 0) := B3.cell 2
  have vz2 : w3.frozen? ⟨w.heap.size + 3, 2, none⟩ = false := B3.frozen 2
  have vk2 : ∀ n, (w3.drewN n).setCell ⟨w.heap.size + 3, 2, none⟩ (.slice none 0 0) = w3.drewN n := fun n => (B3.drewN n).self rfl
  go_upto_region 5 with (fail)
  obtain ⟨W4, hW4⟩ : ∃ W4, W4 = ((w3.setCell ⟨w.heap.size + 3, 0, none⟩ (.bool bv)).setCell ⟨w.heap.size + 3, 1, none⟩ (.slice A3 n3 c3)).setCell ⟨w.heap.size + 3, 2, none⟩ (.slice A4 n4 c4) := ⟨_, rfl⟩
  have HU := Lib.hid (hW4 ▸ HU.out.store3 B3 (.bool bv) (.slice A3 n3 c3) (.slice A4 n4 c4) : FrV W4 (.agg #[.bool bu, .slice A1 n1 c1, .slice A2 n2 c2]) (rx n d))
  have HV := Lib.hid (hW4 ▸ HV.out.store3 B3 (.bool bv) (.slice A3 n3 c3) (.slice A4 n4 c4) : FrV W4 (.agg #[.bool bv, .slice A3 n3 c3, .slice A4 n4 c4]) (rx n' d'))
  have B2 : Blk W4 (w.heap.size + 2) 47 #[.bool bu, .slice A1 n1 c1, .slice A2 n2 c2] := hW4 ▸ B2.far3 (by omega) (.bool bv) (.slice A3 n3 c3) (.slice A4 n4 c4)
  have B3 : Blk W4 (w.heap.size + 3) 47 #[.bool bv, .slice A3 n3 c3, .slice A4 n4 c4] := hW4 ▸ B3.store3 (.bool bv) (.slice A3 n3 c3) (.slice A4 n4 c4)
  have hbw : Below w.heap.size w W4 := hW4 ▸ hbw.store3 (by omega) (.bool bv) (.slice A3 n3 c3) (.slice A4 n4 c4)
  rw [← hW4]
  clear hW4 vc0 vc1 vc2 vz0 vz1 vz2 vk0 vk1 vk2
  have uc0 : W4.cell? ⟨w.heap.size + 2, 0, none⟩ = some (.bool bu) := B2.cell 0
  have uz0 : W4.frozen? ⟨w.heap.size + 2, 0, none⟩ = false := B2.frozen 0
  have uk0 : ∀ n, (W4.drewN n).setCell ⟨w.heap.size + 2, 0, none⟩ (.bool bu) = W4.drewN n := fun n => (B2.drewN n).self rfl
  have uc1 : W4.cell? ⟨w.heap.size + 2, 1, none⟩ = some (.slice A1 n1 c1) := B2.cell 1
  have uz1 : W4.frozen? ⟨w.heap.size + 2, 1, none⟩ = false := B2.frozen 1
  have uk1 : ∀ n, (W4.drewN n).setCell ⟨w.heap.size + 2, 1, none⟩ (.slice A1 n1 c1) = W4.drewN n := fun n => (B2.drewN n).self rfl
  have uc2 : W4.cell? ⟨w.heap.size + 2, 2, none⟩ = some (.slice A2 n2 c2) := B2.cell 2
  have uz2 : W4.frozen? ⟨w.heap.size + 2, 2, none⟩ = false := B2.frozen 2
  have uk2 : ∀ n, (W4.drewN n).setCell ⟨w.heap.size + 2, 2, none⟩ (.slice A2 n2 c2) = W4.drewN n := fun n => (B2.drewN n).self rfl
  have vc0 : W4.cell? ⟨w.heap.size + 3, 0, none⟩ = some (.bool bv) := B3.cell 0
  have vz0 : W4.frozen? ⟨w.heap.size + 3, 0, none⟩ = false := B3.frozen 0
  have vk0 : ∀ n, (W4.drewN n).setCell ⟨w.heap.size + 3, 0, none⟩ (.bool bv) = W4.drewN n := fun n => (B3.drewN n).self rfl
  have vc1 : W4.cell? ⟨w.heap.size + 3, 1, none⟩ = some (.slice A3 n3 c3) := B3.cell 1
  have vz1 : W4.frozen? ⟨w.heap.size + 3, 1, none⟩ = false := B3.frozen 1
  have vk1 : ∀ n, (W4.drewN n).setCell ⟨w.heap.size + 3, 1, none⟩ (.slice A3 n3 c3) = W4.drewN n := fun n => (B3.drewN n).self rfl
  have vc2 : W4.cell? ⟨w.heap.size + 3, 2, none⟩ = some (.slice A4 n4 c4) := B3.cell 2
  have vz2 : W4.frozen? ⟨w.heap.size + 3, 2, none⟩ = false := B3.frozen 2
  have vk2 : ∀ n, (W4.drewN n).setCell ⟨w.heap.size + 3, 2, none⟩ (.slice A4 n4 c4) = W4.drewN n := fun n => (B3.drewN n).self rfl
  go_quiet (fail)
  go_wp2
  refine bodyPost_ret (v := .tuple #[.agg #[.bool bu, .slice A1 n1 c1, .slice A2 n2 c2], .agg #[.bool bv, .slice A3 n3 c3, .slice A4 n4 c4], .int .i64 ((f : Nat) : Int)]) (by simp [results, Tryz.results34, go_sem, uc0, uc1, uc2, vc0, vc1, vc2]) rfl ⟨⟨_, _, by rw [HE.out], fun _ => ⟨HU.out.below ((Below.refl _ _).drewN _), HV.out.below ((Below.refl _ _).drewN _)⟩, ⟨_, _, _, _, _, _, _, rfl⟩, ⟨_, _, _, _, _, _, _, rfl⟩⟩, hbw.drewN _⟩
end Go.Proofs.YtmpelpmhbadjoaaGreatDoor
