/- The reference's both; two ratios opened. -/
import Derived.Test.YtmpelpmhbadjoaaGreatDoorRR2
import Derived.Outline
namespace Go.Proofs.YtmpelpmhbadjoaaGreatDoor
open Go.RowKit Limb Dig Rtx

set_option maxHeartbeats 2000000 in
set_option maxRecDepth 100000 in
theorem rboth_any (n d n' d' : ByteArray) (w : World) (hn : n.size ≤ maxLen) (hd : d.size ≤ maxLen) (hn' : n'.size ≤ maxLen) (hd' : d'.size ≤ maxLen) (htab : Tab w) :
    Calls Tryz.prog 36 #[.agg #[.string n, .string d], .agg #[.string n', .string d']] w fun e w' => e = .returned (.int .i64 (fltT (rx n d) (rx n' d') : Nat)) ∧ Below w.heap.size w w' := by
  have HT := Lib.hid htab
  clear htab
  go_enter Tryz.func36, Tryz.ntmps36
  go_wp2_with fail
  obtain ⟨W, hW⟩ : ∃ W, W = ((w.alloc (.cells #[.string n, .string d] 23 (0, 0))).alloc (.cells #[.string n', .string d'] 23 (0, 0))) := ⟨_, rfl⟩
  have hbw : Below w.heap.size w W := by rw [hW]; exact (((Below.refl _ w).alloc (Nat.le_refl _) _).alloc (by simp) _)
  have B0 : Blk W (w.heap.size) 23 #[.string n, .string d] := by
    rw [hW]
    have := Blk.new w 23 #[.string n, .string d]
    have := this.alloc (.cells #[.string n', .string d'] 23 (0, 0))
    exact this
  have B1 : Blk W (w.heap.size + 1) 23 #[.string n', .string d'] := by
    rw [hW]
    have := Blk.new (w.alloc (.cells #[.string n, .string d] 23 (0, 0))) 23 #[.string n', .string d']
    rwa [World.size_alloc] at this
  have hsz : W.heap.size = w.heap.size + 2 := by rw [hW]; simp
  rw [← hW]
  clear hW hsz
  refine (rcheck_any n d W hn hd (HT.out.below hbw)).mono ?_
  rintro e w1 ⟨rfl, hb1⟩
  have B1 := B1.below hb1 B1.lt
  have hbw := hbw.trans (hb1.mono hbw.size)
  obtain ⟨f, hf⟩ : ∃ f, fltR (rx n d) = f := ⟨_, rfl⟩
  have HF := Lib.hid hf
  rw [hf]
  clear hf hb1
  by_cases h0 : f = 0
  · have hne : (((f : Nat) : Int) != 0) = false := by simp; omega
    have HE := Lib.hid (show fltT (rx n d) (rx n' d') = fltR (rx n' d') by unfold fltT; rw [HF.out, if_neg (by simp [h0])])
    clear h0
    have gc0 : w1.cell? ⟨w.heap.size + 1, 0, none⟩ = some (.string n') := B1.cell 0
    have gc1 : w1.cell? ⟨w.heap.size + 1, 1, none⟩ = some (.string d') := B1.cell 1
    go_wp2_with fail
    refine (rcheck_any n' d' w1 hn' hd' (HT.out.below hbw)).mono ?_
    rintro e w2 ⟨rfl, hb2⟩
    have hbw := hbw.trans (hb2.mono hbw.size)
    clear hb2
    go_wp2
    go_ret
    exact ⟨ret_val (by rw [HE.out]; rfl), hbw⟩
  · have hne : (((f : Nat) : Int) != 0) = true := by simp; omega
    have HE := Lib.hid (show fltT (rx n d) (rx n' d') = f by unfold fltT; rw [HF.out, if_pos h0])
    clear h0
    go_wp2
    go_ret
    exact ⟨ret_val (by rw [HE.out]; rfl), hbw⟩
theorem open_sl (n d : ByteArray) (w : World) (hok : fltR (rx n d) = 0) :
    Calls Tryz.prog 37 #[.agg #[.string n, .string d]] w fun e w' => (∃ b A1 n1 c1 A2 n2 c2, e = .returned (.agg #[.bool b, .slice A1 n1 c1, .slice A2 n2 c2]) ∧ FracI w' 223 (.agg #[.bool b, .slice A1 n1 c1, .slice A2 n2 c2]) (cutN n.data.toList).2 (digVal (cutN n.data.toList).1) (digVal d.data.toList)) ∧ Below w.heap.size w w' :=
  (open_any n d w hok).mono fun e w' ⟨⟨v, he, hv⟩, hb⟩ => by
    obtain ⟨A1, n1, c1, A2, n2, c2, rfl, _⟩ := hv.ex
    exact ⟨⟨_, _, _, _, _, _, _, he, hv⟩, hb⟩
/-- a fraction's variable of the reference in memory -/
structure FrIat (w : World) (g : Nat) (v0 v1 v2 : Value) (neg : Bool) (x y : Nat) : Prop where
  B : Blk w g 53 #[v0, v1, v2]
  f : FracI w 223 (.agg #[v0, v1, v2]) neg x y
theorem FracI.store3 {w : World} {L g x y : Nat} {v : Value} {neg : Bool} (h : FracI w L v neg x y) (B : Blk w g 53 #[.bool false, .slice none 0 0, .slice none 0 0]) (u0 u1 u2 : Value) : FracI (((w.setCell ⟨g, 0, none⟩ u0).setCell ⟨g, 1, none⟩ u1).setCell ⟨g, 2, none⟩ u2) L v neg x y := by
  obtain ⟨A1, n1, c1, A2, n2, c2, e, h1, h2, h3⟩ := h.ex
  have e0 : w.cell? ⟨g, 0, none⟩ = some (.bool false) := B.cell 0
  have e1 : (w.setCell ⟨g, 0, none⟩ u0).cell? ⟨g, 1, none⟩ = some (.slice none 0 0) := (B.set_ 0 _).cell 1
  have e2 : ((w.setCell ⟨g, 0, none⟩ u0).setCell ⟨g, 1, none⟩ u1).cell? ⟨g, 2, none⟩ = some (.slice none 0 0) := ((B.set_ 0 _).set_ 1 _).cell 2
  exact ⟨A1, n1, c1, A2, n2, c2, e, ((h1.box e0 _).box e1 _).box e2 _, ((h2.box e0 _).box e1 _).box e2 _, h3⟩
structure TwoI (w1 wx : World) (p q : Value) (ne1 : Bool) (x1 y1 : Nat) (ne2 : Bool) (x2 y2 : Nat) : Prop where
  ex : ∃ g7 g8 b1 A1 n1 c1 A2 n2 c2 b2 A3 n3 c3 A4 n4 c4, p = .pointer (some ⟨g7, 0, none⟩) ∧ q = .pointer (some ⟨g8, 0, none⟩) ∧ FrIat wx g7 (.bool b1) (.slice A1 n1 c1) (.slice A2 n2 c2) ne1 x1 y1 ∧ FrIat wx g8 (.bool b2) (.slice A3 n3 c3) (.slice A4 n4 c4) ne2 x2 y2 ∧ Below w1.heap.size w1 wx
section
variable {w1 w : World} {b1 b2 : Bool} {A1 A2 A3 A4 : Option Addr} {n1 c1 n2 c2 n3 c3 n4 c4 : Nat} {ne1 ne2 : Bool} {x1 y1 x2 y2 : Nat}
theorem TwoI.k22 (hp : FracI w 223 (.agg #[.bool b1, .slice A1 n1 c1, .slice A2 n2 c2]) ne1 x1 y1) (hq : FracI w 223 (.agg #[.bool b2, .slice A3 n3 c3, .slice A4 n4 c4]) ne2 x2 y2) (hb : Below w1.heap.size w1 w) : TwoI w1 ((w.alloc (.cells #[.bool b1, .slice A1 n1 c1, .slice A2 n2 c2] 53 (0, 0))).alloc (.cells #[.bool b2, .slice A3 n3 c3, .slice A4 n4 c4] 53 (0, 0))) (.pointer (some ⟨w.heap.size, 0, none⟩)) (.pointer (some ⟨w.heap.size + 1, 0, none⟩)) ne1 x1 y1 ne2 x2 y2 := by
  have ba : Below w.heap.size w (w.alloc (.cells #[.bool b1, .slice A1 n1 c1, .slice A2 n2 c2] 53 (0, 0))) := (Below.refl _ _).alloc (Nat.le_refl _) _
  have bb : Below w.heap.size w ((w.alloc (.cells #[.bool b1, .slice A1 n1 c1, .slice A2 n2 c2] 53 (0, 0))).alloc (.cells #[.bool b2, .slice A3 n3 c3, .slice A4 n4 c4] 53 (0, 0))) := ba.alloc ba.size _
  have B2 := Blk.new (w.alloc (.cells #[.bool b1, .slice A1 n1 c1, .slice A2 n2 c2] 53 (0, 0))) 53 #[.bool b2, .slice A3 n3 c3, .slice A4 n4 c4]
  rw [World.size_alloc] at B2
  exact ⟨_, _, _, _, _, _, _, _, _, _, _, _, _, _, _, _, rfl, rfl, ⟨(Blk.new w 53 #[.bool b1, .slice A1 n1 c1, .slice A2 n2 c2]).alloc _, hp.below bb⟩, ⟨B2, hq.below bb⟩, hb.trans (bb.mono hb.size)⟩
theorem TwoI.k22' (hp : FracI w 223 (.agg #[.bool b1, .slice A1 n1 c1, .slice A2 n2 c2]) ne1 x1 y1) (hq : FracI w 223 (.agg #[.bool b2, .slice A3 n3 c3, .slice A4 n4 c4]) ne2 x2 y2) (hb : Below w1.heap.size w1 w) : TwoI w1 ((w.alloc (.cells #[.bool b2, .slice A3 n3 c3, .slice A4 n4 c4] 53 (0, 0))).alloc (.cells #[.bool b1, .slice A1 n1 c1, .slice A2 n2 c2] 53 (0, 0))) (.pointer (some ⟨w.heap.size + 1, 0, none⟩)) (.pointer (some ⟨w.heap.size, 0, none⟩)) ne1 x1 y1 ne2 x2 y2 := by
  have ba : Below w.heap.size w (w.alloc (.cells #[.bool b2, .slice A3 n3 c3, .slice A4 n4 c4] 53 (0, 0))) := (Below.refl _ _).alloc (Nat.le_refl _) _
  have bb : Below w.heap.size w ((w.alloc (.cells #[.bool b2, .slice A3 n3 c3, .slice A4 n4 c4] 53 (0, 0))).alloc (.cells #[.bool b1, .slice A1 n1 c1, .slice A2 n2 c2] 53 (0, 0))) := ba.alloc ba.size _
  have B2 := Blk.new (w.alloc (.cells #[.bool b2, .slice A3 n3 c3, .slice A4 n4 c4] 53 (0, 0))) 53 #[.bool b1, .slice A1 n1 c1, .slice A2 n2 c2]
  rw [World.size_alloc] at B2
  exact ⟨_, _, _, _, _, _, _, _, _, _, _, _, _, _, _, _, rfl, rfl, ⟨B2, hp.below bb⟩, ⟨(Blk.new w 53 #[.bool b2, .slice A3 n3 c3, .slice A4 n4 c4]).alloc _, hq.below bb⟩, hb.trans (bb.mono hb.size)⟩
theorem TwoI.k02 {g7 : Nat} (hp : FracI w 223 (.agg #[.bool b1, .slice A1 n1 c1, .slice A2 n2 c2]) ne1 x1 y1) (hq : FracI w 223 (.agg #[.bool b2, .slice A3 n3 c3, .slice A4 n4 c4]) ne2 x2 y2) (hb : Below w1.heap.size w1 w) (B7 : Blk w g7 53 #[.bool false, .slice none 0 0, .slice none 0 0]) (h7 : w1.heap.size ≤ g7) : TwoI w1 ((((w.setCell ⟨g7, 0, none⟩ (.bool b1)).setCell ⟨g7, 1, none⟩ (.slice A1 n1 c1)).setCell ⟨g7, 2, none⟩ (.slice A2 n2 c2)).alloc (.cells #[.bool b2, .slice A3 n3 c3, .slice A4 n4 c4] 53 (0, 0))) (.pointer (some ⟨g7, 0, none⟩)) (.pointer (some ⟨w.heap.size, 0, none⟩)) ne1 x1 y1 ne2 x2 y2 := by
  obtain ⟨W, hW⟩ : ∃ W, W = (((w.setCell ⟨g7, 0, none⟩ (.bool b1)).setCell ⟨g7, 1, none⟩ (.slice A1 n1 c1)).setCell ⟨g7, 2, none⟩ (.slice A2 n2 c2)) := ⟨_, rfl⟩
  have hs : W.heap.size = w.heap.size := by rw [hW]; simp [World.setCell]
  have P7 : Blk W g7 53 #[.bool b1, .slice A1 n1 c1, .slice A2 n2 c2] := hW ▸ B7.store3 _ _ _
  have hp' : FracI W 223 (.agg #[.bool b1, .slice A1 n1 c1, .slice A2 n2 c2]) ne1 x1 y1 := hW ▸ hp.store3 B7 _ _ _
  have hq' : FracI W 223 (.agg #[.bool b2, .slice A3 n3 c3, .slice A4 n4 c4]) ne2 x2 y2 := hW ▸ hq.store3 B7 _ _ _
  have hb' : Below w1.heap.size w1 W := hW ▸ hb.store3 h7 _ _ _
  rw [← hW, ← hs]
  have ba : Below W.heap.size W (W.alloc (.cells #[.bool b2, .slice A3 n3 c3, .slice A4 n4 c4] 53 (0, 0))) := (Below.refl _ _).alloc (Nat.le_refl _) _
  exact ⟨_, _, _, _, _, _, _, _, _, _, _, _, _, _, _, _, rfl, rfl, ⟨P7.alloc _, hp'.below ba⟩, ⟨Blk.new _ _ _, hq'.below ba⟩, hb'.trans (ba.mono hb'.size)⟩
theorem TwoI.k20 {g8 : Nat} (hp : FracI w 223 (.agg #[.bool b1, .slice A1 n1 c1, .slice A2 n2 c2]) ne1 x1 y1) (hq : FracI w 223 (.agg #[.bool b2, .slice A3 n3 c3, .slice A4 n4 c4]) ne2 x2 y2) (hb : Below w1.heap.size w1 w) (B8 : Blk w g8 53 #[.bool false, .slice none 0 0, .slice none 0 0]) (h8 : w1.heap.size ≤ g8) : TwoI w1 ((((w.setCell ⟨g8, 0, none⟩ (.bool b2)).setCell ⟨g8, 1, none⟩ (.slice A3 n3 c3)).setCell ⟨g8, 2, none⟩ (.slice A4 n4 c4)).alloc (.cells #[.bool b1, .slice A1 n1 c1, .slice A2 n2 c2] 53 (0, 0))) (.pointer (some ⟨w.heap.size, 0, none⟩)) (.pointer (some ⟨g8, 0, none⟩)) ne1 x1 y1 ne2 x2 y2 := by
  obtain ⟨W, hW⟩ : ∃ W, W = (((w.setCell ⟨g8, 0, none⟩ (.bool b2)).setCell ⟨g8, 1, none⟩ (.slice A3 n3 c3)).setCell ⟨g8, 2, none⟩ (.slice A4 n4 c4)) := ⟨_, rfl⟩
  have hs : W.heap.size = w.heap.size := by rw [hW]; simp [World.setCell]
  have P8 : Blk W g8 53 #[.bool b2, .slice A3 n3 c3, .slice A4 n4 c4] := hW ▸ B8.store3 _ _ _
  have hp' : FracI W 223 (.agg #[.bool b1, .slice A1 n1 c1, .slice A2 n2 c2]) ne1 x1 y1 := hW ▸ hp.store3 B8 _ _ _
  have hq' : FracI W 223 (.agg #[.bool b2, .slice A3 n3 c3, .slice A4 n4 c4]) ne2 x2 y2 := hW ▸ hq.store3 B8 _ _ _
  have hb' : Below w1.heap.size w1 W := hW ▸ hb.store3 h8 _ _ _
  rw [← hW, ← hs]
  have ba : Below W.heap.size W (W.alloc (.cells #[.bool b1, .slice A1 n1 c1, .slice A2 n2 c2] 53 (0, 0))) := (Below.refl _ _).alloc (Nat.le_refl _) _
  exact ⟨_, _, _, _, _, _, _, _, _, _, _, _, _, _, _, _, rfl, rfl, ⟨Blk.new _ _ _, hp'.below ba⟩, ⟨P8.alloc _, hq'.below ba⟩, hb'.trans (ba.mono hb'.size)⟩
theorem TwoI.k00 {g7 g8 : Nat} (hp : FracI w 223 (.agg #[.bool b1, .slice A1 n1 c1, .slice A2 n2 c2]) ne1 x1 y1) (hq : FracI w 223 (.agg #[.bool b2, .slice A3 n3 c3, .slice A4 n4 c4]) ne2 x2 y2) (hb : Below w1.heap.size w1 w) (B7 : Blk w g7 53 #[.bool false, .slice none 0 0, .slice none 0 0]) (h7 : w1.heap.size ≤ g7) (B8 : Blk w g8 53 #[.bool false, .slice none 0 0, .slice none 0 0]) (h8 : w1.heap.size ≤ g8) (hne : g7 ≠ g8) : TwoI w1 ((((((w.setCell ⟨g7, 0, none⟩ (.bool b1)).setCell ⟨g7, 1, none⟩ (.slice A1 n1 c1)).setCell ⟨g7, 2, none⟩ (.slice A2 n2 c2)).setCell ⟨g8, 0, none⟩ (.bool b2)).setCell ⟨g8, 1, none⟩ (.slice A3 n3 c3)).setCell ⟨g8, 2, none⟩ (.slice A4 n4 c4)) (.pointer (some ⟨g7, 0, none⟩)) (.pointer (some ⟨g8, 0, none⟩)) ne1 x1 y1 ne2 x2 y2 := by
  have P8 := B8.far3 (Ne.symm hne) (.bool b1) (.slice A1 n1 c1) (.slice A2 n2 c2)
  exact ⟨_, _, _, _, _, _, _, _, _, _, _, _, _, _, _, _, rfl, rfl, ⟨(B7.store3 _ _ _).far3 hne _ _ _, (hp.store3 B7 _ _ _).store3 P8 _ _ _⟩, ⟨P8.store3 _ _ _, (hq.store3 B7 _ _ _).store3 P8 _ _ _⟩, (hb.store3 h7 _ _ _).store3 h8 _ _ _⟩
end
theorem Blk.other {w : World} {g g' t t' : Nat} {cs cs' : Array Value} (B : Blk w g t cs) (B' : Blk w g' t' cs') (h : t ≠ t') : g ≠ g' := by
  rintro rfl
  unfold Blk at B B'
  rw [B] at B'
  injection B' with e
  injection e with _ e2
  exact h e2
theorem FracI.parts {w : World} {L : Nat} {b neg : Bool} {A1 A2 : Option Addr} {n1 c1 n2 c2 x y : Nat} (h : FracI w L (.agg #[.bool b, .slice A1 n1 c1, .slice A2 n2 c2]) neg x y) : b = neg ∧ RepI w L (.slice A1 n1 c1) x ∧ RepI w L (.slice A2 n2 c2) y ∧ 0 < y := by
  obtain ⟨B1, m1, k1, B2, m2, k2, e, h1, h2, h3⟩ := h.ex
  injection e with e
  have e := congrArg Array.toList e
  simp only [List.cons.injEq, Value.bool.injEq, and_true] at e
  obtain ⟨e1, e2, e3⟩ := e
  rw [← e2] at h1
  rw [← e3] at h2
  exact ⟨e1, h1, h2, h3⟩
theorem Blk.new1 (w : World) (o : Obj) (t : TypeId) (cs : Array Value) : Blk ((w.alloc o).alloc (.cells cs t)) (w.heap.size + 1) t cs := by
  have := Blk.new (w.alloc o) t cs
  rwa [World.size_alloc] at this
theorem belA {w W : World} (h : Below w.heap.size w W) (o : Obj) : Below w.heap.size w (W.alloc o) := h.alloc h.size o
theorem belT1 {w W : World} (o : Obj) (h : Below (w.alloc o).heap.size (w.alloc o) W) : Below w.heap.size w W := ((Below.refl _ _).alloc (Nat.le_refl _) _).trans (h.mono (by simp))
theorem belT2 {w W : World} (o p : Obj) (h : Below ((w.alloc o).alloc p).heap.size ((w.alloc o).alloc p) W) : Below w.heap.size w W := belT1 o (belT1 p h)
set_option maxHeartbeats 4000000 in
set_option maxRecDepth 100000 in
theorem rprod_any (n d n' d' : ByteArray) (w : World) (hn : n.size ≤ maxLen) (hd : d.size ≤ maxLen) (hn' : n'.size ≤ maxLen) (hd' : d'.size ≤ maxLen) (htab : Tab w) :
    Calls Tryz.prog 12 #[.agg #[.string n, .string d], .agg #[.string n', .string d']] w fun e w' => e = .returned (outV (prodR (rx n d) (rx n' d'))) ∧ Below w.heap.size w w' := by
  have HT := Lib.hid htab
  clear htab
  go_enter Tryz.func12, Tryz.ntmps12
  go_wp2_with fail
  obtain ⟨W, hW⟩ : ∃ W, W = (((w.alloc (.cells #[.string n, .string d] 23 (0, 0))).alloc (.cells #[.string n', .string d'] 23 (0, 0))).alloc (.cells #[.string ⟨#[]⟩, .string ⟨#[]⟩] 23 (0, 0))) := ⟨_, rfl⟩
  have hbw : Below w.heap.size w W := by rw [hW]; exact ((((Below.refl _ w).alloc (Nat.le_refl _) _).alloc (by simp) _).alloc (by simp; omega) _)
  have B0 : Blk W (w.heap.size) 23 #[.string n, .string d] := by
    rw [hW]
    have := Blk.new w 23 #[.string n, .string d]
    have := this.alloc (.cells #[.string n', .string d'] 23 (0, 0))
    have := this.alloc (.cells #[.string ⟨#[]⟩, .string ⟨#[]⟩] 23 (0, 0))
    exact this
  have B1 : Blk W (w.heap.size + 1) 23 #[.string n', .string d'] := by
    rw [hW]
    have := Blk.new (w.alloc (.cells #[.string n, .string d] 23 (0, 0))) 23 #[.string n', .string d']
    have := this.alloc (.cells #[.string ⟨#[]⟩, .string ⟨#[]⟩] 23 (0, 0))
    rwa [World.size_alloc] at this
  have B2 : Blk W (w.heap.size + 2) 23 #[.string ⟨#[]⟩, .string ⟨#[]⟩] := by
    rw [hW]
    have := Blk.new ((w.alloc (.cells #[.string n, .string d] 23 (0, 0))).alloc (.cells #[.string n', .string d'] 23 (0, 0))) 23 #[.string ⟨#[]⟩, .string ⟨#[]⟩]
    rwa [World.size_alloc, World.size_alloc] at this
  have hsz : W.heap.size = w.heap.size + 3 := by rw [hW]; simp
  rw [← hW]
  clear hW hsz
  refine (rboth_any n d n' d' W hn hd hn' hd' (HT.out.below hbw)).mono ?_
  rintro e w1 ⟨rfl, hb1⟩
  have B0 := B0.below hb1 B0.lt
  have B1 := B1.below hb1 B1.lt
  have B2 := B2.below hb1 B2.lt
  have hbw := hbw.trans (hb1.mono hbw.size)
  obtain ⟨f, hf⟩ : ∃ f, fltT (rx n d) (rx n' d') = f := ⟨_, rfl⟩
  have HF := Lib.hid hf
  rw [hf]
  clear hf
  have rc0 : w1.cell? ⟨w.heap.size + 2, 0, none⟩ = some (.string ⟨#[]⟩) := B2.cell 0
  have rz0 : w1.frozen? ⟨w.heap.size + 2, 0, none⟩ = false := B2.frozen 0
  have rc1 : w1.cell? ⟨w.heap.size + 2, 1, none⟩ = some (.string ⟨#[]⟩) := B2.cell 1
  have rz1 : w1.frozen? ⟨w.heap.size + 2, 1, none⟩ = false := B2.frozen 1
  by_cases h0 : f = 0
  rotate_left
  · have hne : (((f : Nat) : Int) != 0) = true := by simp; omega
    have HE := Lib.hid (show outV (prodR (rx n d) (rx n' d')) = .tuple #[.agg #[.string ⟨#[]⟩, .string ⟨#[]⟩], .int .i64 (f : Nat)] by
      have hf := HF.out
      unfold fltT at hf
      unfold prodR
      by_cases h1 : fltR (rx n d) = 0
      · rw [if_neg (by simp [h1])] at hf
        rw [if_neg (by simp [h1]), if_pos (by rw [hf]; exact h0), hf]; rfl
      · rw [if_pos h1] at hf
        rw [if_pos h1, hf]; rfl)
    clear hb1
    go_wp2
    obtain ⟨W9, hW9⟩ : ∃ W9, W9 = (w1.setCell ⟨w.heap.size + 2, 0, none⟩ (.string ⟨#[]⟩)).setCell ⟨w.heap.size + 2, 1, none⟩ (.string ⟨#[]⟩) := ⟨_, rfl⟩
    have B9 : Blk W9 (w.heap.size + 2) 23 #[.string ⟨#[]⟩, .string ⟨#[]⟩] := hW9 ▸ B2.store2 _ _
    have hbw9 : Below w.heap.size w W9 := hW9 ▸ hbw.store2 (by omega) _ _
    rw [← hW9]
    clear hW9
    have qc0 : W9.cell? ⟨w.heap.size + 2, 0, none⟩ = some (.string ⟨#[]⟩) := B9.cell 0
    have qc1 : W9.cell? ⟨w.heap.size + 2, 1, none⟩ = some (.string ⟨#[]⟩) := B9.cell 1
    refine bodyPost_ret (v := .tuple #[.agg #[.string ⟨#[]⟩, .string ⟨#[]⟩], .int .i64 ((f : Nat) : Int)]) (by simp [results, Tryz.results12, go_sem, qc0, qc1]) rfl ⟨ret_val (HE.out.symm), hbw9⟩
  subst h0
  have HFF := Lib.hid (show fltR (rx n d) = 0 ∧ fltR (rx n' d') = 0 by
    have hf := HF.out
    unfold fltT at hf
    by_cases h1 : fltR (rx n d) = 0
    · rw [if_neg (by simp [h1])] at hf
      exact ⟨h1, hf⟩
    · rw [if_pos h1] at hf
      exact absurd hf h1)
  have HE := Lib.hid (show prodR (rx n d) (rx n' d') = outR (valR (rx n d) * valR (rx n' d')) by
    unfold prodR
    rw [if_neg (by simp [HFF.out.1]), if_neg (by simp [HFF.out.2])])
  have HO1 : Hid (fltR (rx n d) = 0) := Lib.hid HFF.out.1
  have HO2 : Hid (fltR (rx n' d') = 0) := Lib.hid HFF.out.2
  clear hb1 rc0 rc1 rz0 rz1
  have fc0 : w1.cell? ⟨w.heap.size, 0, none⟩ = some (.string n) := B0.cell 0
  have fc1 : w1.cell? ⟨w.heap.size, 1, none⟩ = some (.string d) := B0.cell 1
  have gc0 : w1.cell? ⟨w.heap.size + 1, 0, none⟩ = some (.string n') := B1.cell 0
  have gc1 : w1.cell? ⟨w.heap.size + 1, 1, none⟩ = some (.string d') := B1.cell 1
  go_upto_region 4 with (fail)
  have K1 := Lib.hid (K_of (fun w' (hb : Below w1.heap.size w1 w') => open_sl n d w' HO1.out))
  have K2 := Lib.hid (K_of (fun w' (hb : Below w1.heap.size w1 w') => open_sl n' d' w' HO2.out))
  have hq0 : Below w1.heap.size w1 w1.drew := (Below.refl _ _).drew
  go_cut [7, 8] (fun p q wx => TwoI w1 wx p q (cutN n.data.toList).2 (digVal (cutN n.data.toList).1) (digVal d.data.toList) (cutN n'.data.toList).2 (digVal (cutN n'.data.toList).1) (digVal d'.data.toList))
  case first =>
    go_region_held3 (fun w' => w'.cell? ⟨w.heap.size, 0, none⟩ = some (.string n) ∧ w'.cell? ⟨w.heap.size, 1, none⟩ = some (.string d) ∧ w'.cell? ⟨w.heap.size + 1, 0, none⟩ = some (.string n') ∧ w'.cell? ⟨w.heap.size + 1, 1, none⟩ = some (.string d') ∧ Below w1.heap.size w1 w')
      ((refine (fun h => ⟨Below.cell_of h fc0, Below.cell_of h fc1, Below.cell_of h gc0, Below.cell_of h gc1, h⟩) (?_ : Below w1.heap.size w1 _); (repeat' (first | with_reducible exact hq2 | with_reducible exact hq1 | with_reducible exact hq0 | with_reducible exact Below.refl _ _ | with_reducible refine belA ?_ _ | with_reducible refine Below.drew ?_ | with_reducible refine Below.store3 ?_ (by have := hq1.size; first | exact this | exact Nat.le_refl _ | exact Nat.le_succ _ | omega | (simp; omega)) _ _ _))))
      (first
        | (go_at_call 37; (with_reducible refine (K1.out _ (by first | assumption | exact Below.alloc (by assumption) (Below.size (by assumption)) _ | exact Below.drew (Below.alloc (Below.refl _ _) (Nat.le_refl _) _) | exact Below.drew (Below.alloc (Below.alloc (Below.refl _ _) (Nat.le_refl _) _) (by simp) _))).mono ?_); rintro e w5 ⟨⟨b1, A1, n1, c1, A2, n2, c2, rfl, hp⟩, hq1, hb1⟩; obtain ⟨hcA, hfA⟩ := bcell hb1; have hBk1 := Lib.hid (fun g cs h => Blk.below (g := g) (cs := cs) (t := 53) h hb1 (Blk.lt h)); (try have hy1 : w1.heap.size < w5.heap.size := (by have h := hb1.size; (try simp at h); omega)); (try have hy1' : w1.heap.size + 1 < w5.heap.size := (by have h := hb1.size; (try simp at h); omega)))
        | (go_at_call 37; (with_reducible refine (K2.out _ (by first | assumption | exact Below.alloc (by assumption) (Below.size (by assumption)) _ | exact Below.alloc (Below.alloc (by assumption) (Below.size (by assumption)) _) (by simp; exact Nat.le_succ_of_le (Below.size (by assumption))) _)).mono ?_); rintro e w6 ⟨⟨b2, A3, n3, c3, A4, n4, c4, rfl, hq⟩, hq2, hb2⟩; obtain ⟨hcB, hfB⟩ := bcell hb2; have hBk2 := Lib.hid (fun g cs h => Blk.below (g := g) (cs := cs) (t := 53) h hb2 (Blk.lt h)); (try have hy2 : w1.heap.size < w6.heap.size := (by have h := hb2.size; (try simp at h); omega)); (try have hy2' : w1.heap.size + 1 < w6.heap.size := (by have h := hb2.size; (try simp at h); omega)); (try have hy3 : w5.heap.size < w6.heap.size := (by have h := hb2.size; (try simp at h); omega)); (try have hy3' : w5.heap.size + 1 < w6.heap.size := (by have h := hb2.size; (try simp at h); omega)); (try have hy4 : w1.heap.size < w5.heap.size + 1 := (by omega));  (try have hy5 : w1.heap.size + 1 < w5.heap.size + 1 := (by omega))))
    all_goals
      go_wp2_with (fail)
      go_meet
      first
        | ((with_reducible refine TwoI.k22 ?_ hq hq2); (first | with_reducible exact hp.below hb2 | (with_reducible refine hp.below (belT1 _ hb2)) | (with_reducible refine hp.below (belT2 _ _ hb2))))
        | ((with_reducible refine TwoI.k22' ?_ hq hq2); (first | with_reducible exact hp.below hb2 | (with_reducible refine hp.below (belT1 _ hb2)) | (with_reducible refine hp.below (belT2 _ _ hb2))))
        | ((with_reducible refine TwoI.k02 ?_ hq hq2 ?_ ?_); (· (first | with_reducible exact hp.below hb2 | (with_reducible refine hp.below (belT1 _ hb2)) | (with_reducible refine hp.below (belT2 _ _ hb2)))); (· (repeat' (first | with_reducible exact Blk.new _ _ _ | with_reducible exact Blk.new1 _ _ _ _ | with_reducible refine Blk.alloc ?_ _ | with_reducible refine Blk.drew ?_ | with_reducible refine hBk2.out _ _ ?_ | with_reducible refine hBk1.out _ _ ?_))); (· (first | exact hq1.size | exact Nat.le_refl _ | exact Nat.le_succ _ | (have := hq1.size; omega))))
        | ((with_reducible refine TwoI.k20 ?_ hq hq2 ?_ ?_); (· (first | with_reducible exact hp.below hb2 | (with_reducible refine hp.below (belT1 _ hb2)) | (with_reducible refine hp.below (belT2 _ _ hb2)))); (· (repeat' (first | with_reducible exact Blk.new _ _ _ | with_reducible exact Blk.new1 _ _ _ _ | with_reducible refine Blk.alloc ?_ _ | with_reducible refine Blk.drew ?_ | with_reducible refine hBk2.out _ _ ?_ | with_reducible refine hBk1.out _ _ ?_))); (· (first | exact hq1.size | exact Nat.le_refl _ | exact Nat.le_succ _ | (have := hq1.size; omega))))
        | ((with_reducible refine TwoI.k00 ?_ hq hq2 ?_ ?_ ?_ ?_ ?_); (· (first | with_reducible exact hp.below hb2 | (with_reducible refine hp.below (belT1 _ hb2)) | (with_reducible refine hp.below (belT2 _ _ hb2)))); (· (repeat' (first | with_reducible exact Blk.new _ _ _ | with_reducible exact Blk.new1 _ _ _ _ | with_reducible refine Blk.alloc ?_ _ | with_reducible refine Blk.drew ?_ | with_reducible refine hBk2.out _ _ ?_ | with_reducible refine hBk1.out _ _ ?_))); (· (first | exact hq1.size | exact Nat.le_refl _ | exact Nat.le_succ _ | (have := hq1.size; omega))); (· (repeat' (first | with_reducible exact Blk.new _ _ _ | with_reducible exact Blk.new1 _ _ _ _ | with_reducible refine Blk.alloc ?_ _ | with_reducible refine Blk.drew ?_ | with_reducible refine hBk2.out _ _ ?_ | with_reducible refine hBk1.out _ _ ?_))); (· (first | exact hq1.size | exact Nat.le_refl _ | exact Nat.le_succ _ | (have := hq1.size; omega))); (· (have := hq1.size; omega)))
        
  case rest =>
  obtain ⟨g7, g8, b1, A1, n1, c1, A2, n2, c2, b2, A3, n3, c3, A4, n4, c4, rfl, rfl, F7, F8, hbx⟩ := hcut.ex
  clear K1 K2 hq0 fc0 fc1 gc0 gc1 hcut
  have B2 := B2.below hbx B2.lt
  have hbw := hbw.trans (hbx.mono hbw.size)
  clear hbx B0 B1
  obtain ⟨B7, F7⟩ := F7
  obtain ⟨B8, F8⟩ := F8
  have rc0 : wc.cell? ⟨w.heap.size + 2, 0, none⟩ = some (.string ⟨#[]⟩) := B2.cell 0
  have rz0 : wc.frozen? ⟨w.heap.size + 2, 0, none⟩ = false := B2.frozen 0
  have rc1 : wc.cell? ⟨w.heap.size + 2, 1, none⟩ = some (.string ⟨#[]⟩) := B2.cell 1
  have rz1 : wc.frozen? ⟨w.heap.size + 2, 1, none⟩ = false := B2.frozen 1
  have uc0 : wc.cell? ⟨g7, 0, none⟩ = some (.bool b1) := B7.cell 0
  have uc1 : wc.cell? ⟨g7, 1, none⟩ = some (.slice A1 n1 c1) := B7.cell 1
  have uc2 : wc.cell? ⟨g7, 2, none⟩ = some (.slice A2 n2 c2) := B7.cell 2
  have vc0 : wc.cell? ⟨g8, 0, none⟩ = some (.bool b2) := B8.cell 0
  have vc1 : wc.cell? ⟨g8, 1, none⟩ = some (.slice A3 n3 c3) := B8.cell 1
  have vc2 : wc.cell? ⟨g8, 2, none⟩ = some (.slice A4 n4 c4) := B8.cell 2
  obtain ⟨x1, hx1⟩ : ∃ x, digVal (cutN n.data.toList).1 = x := ⟨_, rfl⟩
  obtain ⟨y1, hy1⟩ : ∃ x, digVal d.data.toList = x := ⟨_, rfl⟩
  obtain ⟨x2, hx2⟩ : ∃ x, digVal (cutN n'.data.toList).1 = x := ⟨_, rfl⟩
  obtain ⟨y2, hy2⟩ : ∃ x, digVal d'.data.toList = x := ⟨_, rfl⟩
  obtain ⟨e1, g1, g2, g3⟩ := F7.parts
  obtain ⟨e2, g4, g5, g6⟩ := F8.parts
  rw [hx1] at g1
  rw [hy1] at g2 g3
  rw [hx2] at g4
  rw [hy2] at g5 g6
  have HQ := Lib.hid (show ratQ (b1 != b2) (x1 * x2) (y1 * y2) = valR (rx n d) * valR (rx n' d') by
    unfold valR
    show _ = ratQ (cutN n.data.toList).2 (digVal (cutN n.data.toList).1) (digVal d.data.toList) * ratQ (cutN n'.data.toList).2 (digVal (cutN n'.data.toList).1) (digVal d'.data.toList)
    rw [hx1, hy1, hx2, hy2, ← e1, ← e2]
    exact (ratQ_mul _ _ _ _ _ _ g3 g6).symm)
  have hyy : 0 < y1 * y2 := Nat.mul_pos g3 g6
  have HG1 := Lib.hid g1
  have HG2 := Lib.hid g2
  have HG4 := Lib.hid g4
  have HG5 := Lib.hid g5
  clear g1 g2 g4 g5 e1 e2 hx1 hy1 hx2 hy2 F7 F8
  have HT2 := Lib.hid (HT.out.below hbw)
  have K1 := Lib.hid (K_of (fun w' (hb : Below wc.heap.size wc w') => (rtimes_rep w' 223 223 _ _ _ _ (HG1.out.below hb) (HG4.out.below hb) (by omega) (by omega)).mono fun _ _ ⟨h, hb⟩ => ⟨sl_formI h, hb⟩))
  have K2 := Lib.hid (K_of (fun w' (hb : Below wc.heap.size wc w') => (rtimes_rep w' 223 223 _ _ _ _ (HG2.out.below hb) (HG5.out.below hb) (by omega) (by omega)).mono fun _ _ ⟨h, hb⟩ => ⟨sl_formI h, hb⟩))
  have hq0 : Below wc.heap.size wc wc.drew := (Below.refl _ _).drew
  have hne7 : g7 ≠ w.heap.size + 2 := B7.other B2 (by decide)
  have hne8 : g8 ≠ w.heap.size + 2 := B8.other B2 (by decide)
  go_upto_region 5 with (fail)
  go_region_held3 (fun w' => w'.cell? ⟨g7, 0, none⟩ = some (.bool b1) ∧ w'.cell? ⟨g7, 1, none⟩ = some (.slice A1 n1 c1) ∧ w'.cell? ⟨g7, 2, none⟩ = some (.slice A2 n2 c2) ∧ w'.cell? ⟨g8, 0, none⟩ = some (.bool b2) ∧ w'.cell? ⟨g8, 1, none⟩ = some (.slice A3 n3 c3) ∧ w'.cell? ⟨g8, 2, none⟩ = some (.slice A4 n4 c4) ∧ Below w.heap.size w w')
    (first | exact ⟨Below.cell_of hq3 uc0, Below.cell_of hq3 uc1, Below.cell_of hq3 uc2, Below.cell_of hq3 vc0, Below.cell_of hq3 vc1, Below.cell_of hq3 vc2, hbw.trans (hq3.mono hbw.size)⟩ | exact ⟨Below.cell_of hq2 uc0, Below.cell_of hq2 uc1, Below.cell_of hq2 uc2, Below.cell_of hq2 vc0, Below.cell_of hq2 vc1, Below.cell_of hq2 vc2, hbw.trans (hq2.mono hbw.size)⟩ | exact ⟨Below.cell_of hq1 uc0, Below.cell_of hq1 uc1, Below.cell_of hq1 uc2, Below.cell_of hq1 vc0, Below.cell_of hq1 vc1, Below.cell_of hq1 vc2, hbw.trans (hq1.mono hbw.size)⟩ | exact ⟨Below.cell_of hq0 uc0, Below.cell_of hq0 uc1, Below.cell_of hq0 uc2, Below.cell_of hq0 vc0, Below.cell_of hq0 vc1, Below.cell_of hq0 vc2, hbw.trans (hq0.mono hbw.size)⟩ | exact ⟨(C3.far2 hne7 _ _).cell 0, (C3.far2 hne7 _ _).cell 1, (C3.far2 hne7 _ _).cell 2, (C4.far2 hne8 _ _).cell 0, (C4.far2 hne8 _ _).cell 1, (C4.far2 hne8 _ _).cell 2, (hbw.trans (hq3.mono hbw.size)).store2 (by omega) _ _⟩)
    (first
      | (go_at_call 38; (with_reducible refine (K1.out _ (by assumption)).mono ?_); rintro e w' ⟨⟨Ap, np, cp, rfl, hp⟩, hq1, hb4⟩)
      | (go_at_call 38; (with_reducible refine (K2.out _ (by assumption)).mono ?_); rintro e w' ⟨⟨Aq, nq, cq, rfl, hq⟩, hq2, hb5⟩)
      | (go_at_call 26; refine (shut_q _ 447 (x1 * x2) (y1 * y2) _ (b1 != b2) _ ⟨_, _, _, _, _, _, rfl, hp.below hb5, hq, hyy⟩ HQ.out (by omega) (HT2.out.below hq2)).mono ?_; rintro e w' ⟨⟨S1, S2, k, rfl, hout⟩, hb6⟩; have hq3 := hq2.trans (hb6.mono hq2.size); have C2 := B2.below hq3 B2.lt; have C3 := B7.below hq3 B7.lt; have C4 := B8.below hq3 B8.lt; have rc0 := Below.cell_of hq3 rc0; have rc1 := Below.cell_of hq3 rc1; have rz0 := C2.frozen 0; have rz1 := C2.frozen 1; have HO := Lib.hid hout; clear hout))
  all_goals
    go_wp2_with (fail)
    have hbw := hbw.trans (hq3.mono hbw.size)
    obtain ⟨W9, hW9⟩ : ∃ W9, W9 = (w'.setCell ⟨w.heap.size + 2, 0, none⟩ (.string S1)).setCell ⟨w.heap.size + 2, 1, none⟩ (.string S2) := ⟨_, rfl⟩
    have B9 : Blk W9 (w.heap.size + 2) 23 #[.string S1, .string S2] := hW9 ▸ C2.store2 _ _
    have hbw9 : Below w.heap.size w W9 := hW9 ▸ hbw.store2 (by omega) _ _
    rw [← hW9]
    clear hW9
    have qc0 : W9.cell? ⟨w.heap.size + 2, 0, none⟩ = some (.string S1) := B9.cell 0
    have qc1 : W9.cell? ⟨w.heap.size + 2, 1, none⟩ = some (.string S2) := B9.cell 1
    refine bodyPost_ret (v := .tuple #[.agg #[.string S1, .string S2], .int .i64 k]) (by simp [results, Tryz.results12, go_sem, qc0, qc1]) rfl ⟨ret_val (by rw [HE.out, HO.out]), hbw9⟩
end Go.Proofs.YtmpelpmhbadjoaaGreatDoor
