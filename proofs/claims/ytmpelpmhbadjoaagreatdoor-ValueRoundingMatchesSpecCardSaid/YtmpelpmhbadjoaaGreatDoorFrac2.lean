/- The walk of fractionOf: a ratio's texts as a fraction. -/
import Derived.Test.YtmpelpmhbadjoaaGreatDoorRatio
import Derived.Test.YtmpelpmhbadjoaaGreatDoorRat
import Derived.Deep.RegionWith
import Derived.Deep.CutBlock
import Derived.Outline
namespace Go.Proofs.YtmpelpmhbadjoaaGreatDoor
open Go.RowKit Limb Dig Rtx

/-- the texts of a ratio, as lists -/
def rx (n d : ByteArray) : R := ⟨n.data.toList, d.data.toList⟩
theorem cut_prefix (s : ByteArray) : Lib.trimPrefix s.data.toList [45] = (cutN s.data.toList).1 ∧ Lib.hasPrefix s.data.toList [45] = (cutN s.data.toList).2 := by
  cases s.data.toList with
  | nil => exact ⟨rfl, rfl⟩
  | cons b t =>
    by_cases h : b = 45
    · subst h; exact ⟨rfl, rfl⟩
    · have hp : [45].isPrefixOf (b :: t) = false := by simp [List.isPrefixOf, Ne.symm h]
      simp [Lib.trimPrefix, Lib.hasPrefix, cutN, h, hp]
theorem isDigits_yes (s : ByteArray) (w : World) (hs : s.size ≤ maxLen) (h : Sound s.data.toList) :
    Calls Tryz.prog 56 #[.string s] w fun e w' => e = .returned (.bool true) ∧ w = w' :=
  (isDigits_any s w hs).mono fun _ _ ⟨⟨b, he, hb⟩, hw⟩ => ⟨by rw [he, hb.2 h], hw⟩
theorem isDigits_no (s : ByteArray) (w : World) (hs : s.size ≤ maxLen) (h : ¬ Sound s.data.toList) :
    Calls Tryz.prog 56 #[.string s] w fun e w' => e = .returned (.bool false) ∧ w = w' :=
  (isDigits_any s w hs).mono fun _ _ ⟨⟨b, he, hb⟩, hw⟩ => ⟨by rw [he]; cases b with | false => rfl | true => exact absurd (hb.1 rfl) h, hw⟩
/-- what fractionOf hands back -/
structure FrV (w : World) (v : Value) (a : R) : Prop where
  ok : fltR a = 0 → Frac w 223 v (cutN a.n).2 (digVal (cutN a.n).1) (digVal a.d)
  no : fltR a ≠ 0 → v = .agg #[.bool false, .slice none 0 0, .slice none 0 0]
theorem FrV.form {w : World} {v : Value} {a : R} (h : FrV w v a) : ∃ b A1 n1 c1 A2 n2 c2, v = .agg #[.bool b, .slice A1 n1 c1, .slice A2 n2 c2] := by
  by_cases h0 : fltR a = 0
  · obtain ⟨n, d, rfl, hn, hd, _⟩ := (h.ok h0).ex
    obtain ⟨A1, n1, c1, rfl, _⟩ := hn.form
    obtain ⟨A2, n2, c2, rfl, _⟩ := hd.form
    exact ⟨_, _, _, _, _, _, _, rfl⟩
  · exact ⟨_, _, _, _, _, _, _, h.no h0⟩
theorem Rep.one {w : World} {L x n c : Nat} {A : Option Addr} (h : Rep w L (.slice A n c) x) (hn : n = 1) : ∃ ad, A = some ad ∧ w.cell? (ad.add 0) = some (.int .u64 (x : Int)) := by
  obtain ⟨l, A', c', h1, h2, h3, h4, h5, h6⟩ := h.ex
  injection h1 with e1 e2 e3
  subst e1
  have hl : l.length = 1 := e2 ▸ hn
  obtain ⟨ad, e, hc⟩ := h5.limb (k := 0) (by omega)
  refine ⟨ad, e, ?_⟩
  rw [hc]
  have hv := val_one hl
  rw [h4] at hv
  rw [getD_at (by omega)] at hv
  rw [hv]
theorem Rep.one_of {w : World} {L n c : Nat} {A : Option Addr} (h : Rep w L (.slice A n c) 1) : n = 1 := by
  obtain ⟨l, A', c', h1, h2, h3, h4, h5, h6⟩ := h.ex
  injection h1 with e1 e2 e3
  rw [e2, one_limb h3 h4 (by omega) (by omega)]
  rfl
theorem sound_zero_of {l : List UInt8} (h : Sound l) (h0 : digVal l = 0) : l = [48] := by
  rcases h.2.2 with h1 | h1
  · cases l with
    | nil => exact absurd rfl h.2.1
    | cons b t =>
      have hb := h.1 b (List.mem_cons.2 (Or.inl rfl))
      rw [digVal_cons] at h0
      have hp : 0 < 10 ^ t.length := Nat.pow_pos (by omega)
      have hz : (b.toNat - 48) * 10 ^ t.length = 0 := by omega
      rcases Nat.mul_eq_zero.1 hz with h2 | h2
      · refine absurd ?_ h1
        have : b = 48 := UInt8.toNat_inj.1 (by unfold isDig at hb; show b.toNat = 48; omega)
        rw [this]; rfl
      · omega
  · exact h1
theorem fail_end {n d : ByteArray} {w W : World} {a : Act} (k : Nat) (hk : fltR (rx n d) = k)
    (hr : (results Tryz.f28 a.tmps).run Tryz.prog W = .ok (.tuple #[.agg #[.bool false, .slice none 0 0, .slice none 0 0], .int .i64 ((k : Nat) : Int)]) W) (hb : Below w.heap.size w W) (hd : a.defers = [] := by rfl) (k0 : 0 < k := by decide) :
    bodyPost Tryz.prog Tryz.f28 (fun e w' => (∃ r, e = .returned (.tuple #[r, .int .i64 (fltR (rx n d) : Nat)]) ∧ FrV w' r (rx n d)) ∧ Below w.heap.size w w') .ret a W := by
  refine bodyPost_ret hr hd ⟨⟨_, by rw [hk], ⟨fun h => by omega, fun _ => rfl⟩⟩, hb⟩
/-- a fraction's variable in memory -/
structure FrAt (w : World) (g : Nat) (b : Bool) (vn vd : Value) (x y : Nat) : Prop where
  c0 : w.cell? ⟨g, 0, none⟩ = some (.bool b)
  c1 : w.cell? ⟨g, 1, none⟩ = some vn
  c2 : w.cell? ⟨g, 2, none⟩ = some vd
  hn : Rep w 223 vn x
  hd : Rep w 223 vd y
theorem FrAt.last {w w' W : World} {b : Bool} {vn vd : Value} {x y : Nat} (h1 : Rep w 223 vn x) (hb : Below w.heap.size w w') (h2 : Rep w' 223 vd y) (hq : Below W.heap.size W w') :
    FrAt (w'.alloc (.cells #[.bool b, vn, vd] 47 (0, 0))) w'.heap.size b vn vd x y ∧ W.heap.size ≤ w'.heap.size ∧ Below W.heap.size W (w'.alloc (.cells #[.bool b, vn, vd] 47 (0, 0))) :=
  have hbA : Below w'.heap.size w' (w'.alloc (.cells #[.bool b, vn, vd] 47 (0, 0))) := (Below.refl _ _).alloc (Nat.le_refl _) _
  ⟨⟨by simp [go_sem], by simp [go_sem], by simp [go_sem], (h1.below hb).below hbA, h2.below hbA⟩, hq.size, hq.alloc hq.size _⟩
theorem FrAt.last' {w w' W : World} {b : Bool} {vn vd : Value} {x y : Nat} (h2 : Rep w 223 vd y) (hb : Below w.heap.size w w') (h1 : Rep w' 223 vn x) (hq : Below W.heap.size W w') :
    FrAt (w'.alloc (.cells #[.bool b, vn, vd] 47 (0, 0))) w'.heap.size b vn vd x y ∧ W.heap.size ≤ w'.heap.size ∧ Below W.heap.size W (w'.alloc (.cells #[.bool b, vn, vd] 47 (0, 0))) :=
  have hbA : Below w'.heap.size w' (w'.alloc (.cells #[.bool b, vn, vd] 47 (0, 0))) := (Below.refl _ _).alloc (Nat.le_refl _) _
  ⟨⟨by simp [go_sem], by simp [go_sem], by simp [go_sem], h1.below hbA, (h2.below hb).below hbA⟩, hq.size, hq.alloc hq.size _⟩
theorem FrAt.stores {w W : World} {g : Nat} {b : Bool} {vn vd : Value} {x y : Nat} (B : Blk w g 47 #[.bool false, .slice none 0 0, .slice none 0 0]) (h1 : Rep w 223 vn x) (h2 : Rep w 223 vd y) (hg : W.heap.size ≤ g) (hq : Below W.heap.size W w) :
    FrAt (((w.setCell ⟨g, 0, none⟩ (.bool b)).setCell ⟨g, 1, none⟩ vn).setCell ⟨g, 2, none⟩ vd) g b vn vd x y ∧ W.heap.size ≤ g ∧ Below W.heap.size W (((w.setCell ⟨g, 0, none⟩ (.bool b)).setCell ⟨g, 1, none⟩ vn).setCell ⟨g, 2, none⟩ vd) := by
  have B1 := B.set_ 0 (.bool b)
  have B2 := B1.set_ 1 vn
  have B3 := B2.set_ 2 vd
  have e0 : w.cell? ⟨g, 0, none⟩ = some (.bool false) := B.cell 0
  have e1 : (w.setCell ⟨g, 0, none⟩ (.bool b)).cell? ⟨g, 1, none⟩ = some (.slice none 0 0) := B1.cell 1
  have e2 : ((w.setCell ⟨g, 0, none⟩ (.bool b)).setCell ⟨g, 1, none⟩ vn).cell? ⟨g, 2, none⟩ = some (.slice none 0 0) := B2.cell 2
  exact ⟨⟨B3.cell 0, B3.cell 1, B3.cell 2, ((h1.box e0 _).box e1 _).box e2 _, ((h2.box e0 _).box e1 _).box e2 _⟩, hg, ((hq.setCell hg _).setCell hg _).setCell hg _⟩
theorem FrAt.below {w w' : World} {g : Nat} {b : Bool} {vn vd : Value} {x y : Nat} (h : FrAt w g b vn vd x y) (hb : Below w.heap.size w w') : FrAt w' g b vn vd x y :=
  ⟨Below.cell_of hb h.c0, Below.cell_of hb h.c1, Below.cell_of hb h.c2, h.hn.below hb, h.hd.below hb⟩
theorem FrAt.store {w : World} {g g' : Nat} {b : Bool} {vn vd : Value} {x y : Nat} (h : FrAt w g b vn vd x y) (B : Blk w g' 47 #[.bool false, .slice none 0 0, .slice none 0 0]) :
    Rep (((w.setCell ⟨g', 0, none⟩ (.bool b)).setCell ⟨g', 1, none⟩ vn).setCell ⟨g', 2, none⟩ vd) 223 vn x ∧ Rep (((w.setCell ⟨g', 0, none⟩ (.bool b)).setCell ⟨g', 1, none⟩ vn).setCell ⟨g', 2, none⟩ vd) 223 vd y := by
  have B1 := B.set_ 0 (.bool b)
  have B2 := B1.set_ 1 vn
  have e0 : w.cell? ⟨g', 0, none⟩ = some (.bool false) := B.cell 0
  have e1 : (w.setCell ⟨g', 0, none⟩ (.bool b)).cell? ⟨g', 1, none⟩ = some (.slice none 0 0) := B1.cell 1
  have e2 : ((w.setCell ⟨g', 0, none⟩ (.bool b)).setCell ⟨g', 1, none⟩ vn).cell? ⟨g', 2, none⟩ = some (.slice none 0 0) := B2.cell 2
  exact ⟨((h.hn.box e0 _).box e1 _).box e2 _, ((h.hd.box e0 _).box e1 _).box e2 _⟩
theorem ofDigits_rep (s : ByteArray) (w : World) (hs : s.size ≤ 2000) (hd : ∀ b ∈ s.data.toList, isDig b) :
    Calls Tryz.prog 57 #[.string s] w fun e w' => (∃ A n c, e = .returned (.slice A n c) ∧ Rep w' 223 (.slice A n c) (digVal s.data.toList)) ∧ Below w.heap.size w w' :=
  (ofDigits_any s w (by omega) hd).mono fun _ _ ⟨⟨v, he, hv⟩, hb⟩ => by
    obtain ⟨A, n, c, rfl, _⟩ := hv.form
    exact ⟨⟨A, n, c, he, hv.mono (by omega)⟩, hb⟩
set_option maxHeartbeats 2000000 in
set_option maxRecDepth 100000 in
theorem fractionOf_any (n d : ByteArray) (w : World) (hn : n.size ≤ maxLen) (hd : d.size ≤ maxLen) :
    Calls Tryz.prog 28 #[.agg #[.string n, .string d]] w fun e w' => (∃ r, e = .returned (.tuple #[r, .int .i64 (fltR (rx n d) : Nat)]) ∧ FrV w' r (rx n d)) ∧ Below w.heap.size w w' := by
  obtain ⟨nn, hnn⟩ : ∃ nn : ByteArray, nn = ⟨(cutN n.data.toList).1.toArray⟩ := ⟨_, rfl⟩
  have HC := Lib.hid (cut_prefix n)
  have HNN := Lib.hid (show nn.data.toList = (cutN n.data.toList).1 by rw [hnn])
  have HNE := Lib.hid (show (⟨(Lib.trimPrefix n.data.toList [45]).toArray⟩ : ByteArray) = nn by rw [HC.out.1, hnn])
  obtain ⟨ng, hng⟩ : ∃ ng, Lib.hasPrefix n.data.toList [45] = ng := ⟨_, rfl⟩
  have HNG := Lib.hid (show (cutN n.data.toList).2 = ng by rw [← HC.out.2, hng])
  have HNG2 := Lib.hid hng
  have HSN := Lib.hid (show nn.size = (cutN n.data.toList).1.length from dsize HNN.out)
  clear hnn hng
  go_enter Tryz.func28, Tryz.ntmps28
  go_wp2_with fail
  refine (Tryz.strings_CutPrefix n ⟨#[45]⟩ _).mono ?_
  rintro e w' ⟨rfl, rfl⟩
  rw [show ((⟨#[45]⟩ : ByteArray)).data.toList = [45] from rfl, HNE.out, HNG2.out]
  have hnl : nn.size ≤ maxLen := by
    have h1 := HSN.out
    have h2 : (cutN n.data.toList).1.length ≤ n.data.toList.length := by
      cases n.data.toList with
      | nil => simp [cutN]
      | cons b t =>
        unfold cutN
        simp only
        split <;> simp
    have : n.data.toList.length = n.size := rfl
    omega
  by_cases h1 : 2000 < nn.size
  · have h2 : d.size ≤ 2000 ∨ 2000 < d.size := by omega
    have HF := Lib.hid (show fltR (rx n d) = 2 from if_pos (.inl (by show 2000 < (cutN n.data.toList).1.length; rw [← HSN.out]; exact h1)))
    go_wp2
    exact fail_end 2 HF.out (by simp [results, Tryz.results28, go_sem]) (((Below.refl _ _).alloc (Nat.le_refl _) _).alloc (by simp) _)
  by_cases h2 : 2000 < d.size
  · have HF := Lib.hid (show fltR (rx n d) = 2 from if_pos (.inr h2))
    go_wp2
    exact fail_end 2 HF.out (by simp [results, Tryz.results28, go_sem]) (((Below.refl _ _).alloc (Nat.le_refl _) _).alloc (by simp) _)
  have HB := Lib.hid (show ¬ (2000 < (cutN (rx n d).n).1.length ∨ 2000 < (rx n d).d.length) by
    rintro (h | h)
    · exact h1 (by rw [HSN.out]; exact h)
    · exact h2 h)
  by_cases hs1 : Sound nn.data.toList
  rotate_left
  · have HD1 := Lib.hid (isDigits_no nn · hnl hs1)
    have HF := Lib.hid (show fltR (rx n d) = 3 from by unfold fltR; rw [if_neg HB.out, if_pos (.inl (by show ¬ Sound (cutN n.data.toList).1; rw [← HNN.out]; exact hs1))])
    go_wp2_with (go_at_call 56; refine (HD1.out _).mono ?_; rintro e w2 ⟨rfl, rfl⟩)
    exact fail_end 3 HF.out (by simp [results, Tryz.results28, go_sem]) (((Below.refl _ _).alloc (Nat.le_refl _) _).alloc (by simp) _)
  by_cases hs2 : Sound d.data.toList
  rotate_left
  · have HD1 := Lib.hid (isDigits_yes nn · hnl hs1)
    have HD2 := Lib.hid (isDigits_no d · hd hs2)
    have HF := Lib.hid (show fltR (rx n d) = 3 from by unfold fltR; rw [if_neg HB.out, if_pos (.inr (.inl hs2))])
    go_wp2_with (go_at_call 56; (first | (with_reducible refine (HD1.out _).mono ?_) | (with_reducible refine (HD2.out _).mono ?_)); rintro e w2 ⟨rfl, rfl⟩)
    exact fail_end 3 HF.out (by simp [results, Tryz.results28, go_sem]) (((Below.refl _ _).alloc (Nat.le_refl _) _).alloc (by simp) _)
  have HD1 := Lib.hid (isDigits_yes nn · hnl hs1)
  have HD2 := Lib.hid (isDigits_yes d · hd hs2)
  have HS1 := Lib.hid hs1
  have HS2 := Lib.hid hs2
  clear hs1 hs2
  by_cases hd0 : d = ⟨#[48]⟩
  · have e0 : (d.toList == [48]) = true := by rw [hd0, ByteArray.toList_eq]; rfl
    have HD0 := Lib.hid hd0
    clear hd0
    have HF := Lib.hid (show fltR (rx n d) = 3 from by unfold fltR; rw [if_neg HB.out, if_pos (.inr (.inr (.inl (by show d.data.toList = [48]; rw [HD0.out]))))])
    go_wp2_with (go_at_call 56; (first | (with_reducible refine (HD1.out _).mono ?_) | (with_reducible refine (HD2.out _).mono ?_)); rintro e w2 ⟨rfl, rfl⟩)
    exact fail_end 3 HF.out (by simp [results, Tryz.results28, go_sem]) (((Below.refl _ _).alloc (Nat.le_refl _) _).alloc (by simp) _)
  have e0 : (d.toList == [48]) = false := by
    rw [ByteArray.toList_eq, beq_eq_false_iff_ne]
    exact fun e => hd0 (ba_of e)
  have HD0 := Lib.hid hd0
  clear hd0
  obtain ⟨z, hz⟩ : ∃ z, (ng && (nn.toList == [48])) = z := ⟨_, rfl⟩
  have HZ := Lib.hid (show z = true ↔ ((cutN n.data.toList).2 = true ∧ (cutN n.data.toList).1 = [48]) by
    rw [← hz, HNG.out, ← HNN.out, ByteArray.toList_eq]
    simp)
  cases z
  rotate_left
  · have hz' : ng = true ∧ (nn.toList == [48]) = true := by simpa using hz
    obtain ⟨hz1, hz2⟩ := hz'
    subst hz1
    clear hz
    have HF := Lib.hid (show fltR (rx n d) = 3 from by unfold fltR; rw [if_neg HB.out, if_pos (.inr (.inr (.inr (HZ.out.1 rfl))))])
    go_wp2_with (go_at_call 56; (first | (with_reducible refine (HD1.out _).mono ?_) | (with_reducible refine (HD2.out _).mono ?_)); rintro e w2 ⟨rfl, rfl⟩)
    exact fail_end 3 HF.out (by simp [results, Tryz.results28, go_sem]) (((Below.refl _ _).alloc (Nat.le_refl _) _).alloc (by simp) _)
  have HG := Lib.hid (show (Nat.gcd (digVal nn.data.toList) (digVal d.data.toList) ≠ 1 → fltR (rx n d) = 3) ∧ (Nat.gcd (digVal nn.data.toList) (digVal d.data.toList) = 1 → fltR (rx n d) = 0) by
    unfold fltR
    rw [if_neg HB.out, if_neg, HNN.out]
    · exact ⟨fun h => if_pos h, fun h => if_neg (fun h' => h' h)⟩
    · rintro (h | h | h | h)
      · exact h (by show Sound (cutN n.data.toList).1; rw [← HNN.out]; exact HS1.out)
      · exact h HS2.out
      · exact HD0.out (ba_of h)
      · exact absurd (HZ.out.2 h) (by decide))
  have HY := Lib.hid (show 0 < digVal d.data.toList by
    rcases Nat.eq_zero_or_pos (digVal d.data.toList) with h | h
    · exact absurd (ba_of (sound_zero_of HS2.out h)) HD0.out
    · exact h)
  have hgo : ng = false ∨ (ng = true ∧ (nn.toList == [48]) = false) := by
    cases ng
    · exact .inl rfl
    · exact .inr ⟨rfl, by simpa using hz⟩
  clear hz HZ
  have HK1 := Lib.hid (ofDigits_rep nn · (by omega) HS1.out.1)
  have HK2 := Lib.hid (ofDigits_rep d · (by omega) HS2.out.1)
  go_upto_region 4 with (fail)
  obtain ⟨W, hW⟩ : ∃ W, W = (w.alloc (.cells #[.string n, .string d] 23 (0, 0))).alloc (.cells #[.bool false, .slice none 0 0, .slice none 0 0] 47 (0, 0)) := ⟨_, rfl⟩
  rw [← hW]
  have B1 : Blk W (w.heap.size + 1) 47 #[.bool false, .slice none 0 0, .slice none 0 0] := by
    rw [hW]
    have := Blk.new (w.alloc (.cells #[.string n, .string d] 23 (0, 0))) 47 #[.bool false, .slice none 0 0, .slice none 0 0]
    rwa [World.size_alloc] at this
  have c1 : W.cell? ⟨w.heap.size, 1, none⟩ = some (.string d) := by rw [hW]; simp [go_sem]
  have hbw : Below w.heap.size w W := by rw [hW]; exact ((Below.refl _ w).alloc (Nat.le_refl _) _).alloc (by simp) _
  have hsz : W.heap.size = w.heap.size + 2 := by rw [hW]; simp
  clear hW
  go_cut [44] (fun r wc => r = .bool false ∧ wc = W)
  case first =>
    rcases hgo with rfl | ⟨rfl, e1⟩
    all_goals
      go_wp2_with (go_at_call 56; (first | (with_reducible refine (HD1.out _).mono ?_) | (with_reducible refine (HD2.out _).mono ?_)); rintro e w2 ⟨rfl, rfl⟩)
      go_meet
      exact ⟨rfl, rfl⟩
  case rest =>
  obtain ⟨rfl, rfl⟩ := hcut
  have hz0 : w.heap.size < wc.heap.size := by omega
  have HSZ := Lib.hid hsz
  clear hsz
  have HO := fun (s : ByteArray) (hs : s.size ≤ 2000) (hd : ∀ b ∈ s.data.toList, isDig b) => Lib.hid (fun (w' : World) (hb : Below wc.heap.size wc w') =>
    (ofDigits_rep s w' hs hd).mono fun e w'' (h : (∃ A n c, e = .returned (.slice A n c) ∧ Rep w'' 223 (.slice A n c) (digVal s.data.toList)) ∧ Below w'.heap.size w' w'') =>
      (⟨h.1, ⟨hb.trans (h.2.mono hb.size), Below.cell_of (hb.trans (h.2.mono hb.size)) c1, h.2⟩⟩ : (∃ A n c, e = .returned (.slice A n c) ∧ Rep w'' 223 (.slice A n c) (digVal s.data.toList)) ∧ (Below wc.heap.size wc w'' ∧ w''.cell? ⟨w.heap.size, 1, none⟩ = some (.string d) ∧ Below w'.heap.size w' w'')))
  have HK1 := HO nn (by omega) HS1.out.1
  have HK2 := HO d (by omega) HS2.out.1
  clear HO
  have hq0 : Below wc.heap.size wc wc.drew := (Below.refl _ _).drew
  go_upto_region 6 with (fail)
  go_cut [6] (fun r wx => ∃ A n c A' n' c' g, r = .pointer (some ⟨g, 0, none⟩) ∧ FrAt wx g ng (.slice A n c) (.slice A' n' c') (digVal nn.data.toList) (digVal d.data.toList) ∧ wc.heap.size ≤ g ∧ Below wc.heap.size wc wx)
  case first =>
    go_region_with (first
      | (go_at_call 57; (with_reducible refine (HK1.out _ (by first | assumption | exact ((Below.refl _ _).alloc (Nat.le_refl _) _).drew | exact Below.alloc (by assumption) (Below.size (by assumption)) _)).mono ?_); rintro e w' ⟨⟨A1, n1, c1', rfl, hr1⟩, hq1, hc1, hb1⟩; obtain ⟨hcA, hfA⟩ := bcell hb1; have hz1 : w.heap.size < w'.heap.size := Nat.lt_of_lt_of_le (by omega) hq1.size; have hBk1 := Lib.hid (fun g cs h => Blk.below (g := g) (cs := cs) (t := 47) h hb1 (Blk.lt h)); try have hy1 : wc.heap.size < w'.heap.size := by have h := hb1.size; simp at h; omega)
      | (go_at_call 57; (with_reducible refine (HK2.out _ (by first | assumption | exact ((Below.refl _ _).alloc (Nat.le_refl _) _).drew | exact Below.alloc (by assumption) (Below.size (by assumption)) _)).mono ?_); rintro e w' ⟨⟨A2, n2, c2', rfl, hr2⟩, hq2, hc2, hb2⟩; obtain ⟨hcB, hfB⟩ := bcell hb2; have hz2 : w.heap.size < w'.heap.size := Nat.lt_of_lt_of_le (by omega) hq2.size; have hBk2 := Lib.hid (fun g cs h => Blk.below (g := g) (cs := cs) (t := 47) h hb2 (Blk.lt h)); try have hy2 : wc.heap.size < w'.heap.size := by have h := hb2.size; simp at h; omega))
    all_goals
      go_wp2_with (fail)
      go_meet
      refine ⟨A1, n1, c1', A2, n2, c2', _, rfl, ?_⟩
      first
        | exact FrAt.last hr1 hb2 hr2 hq2
        | exact FrAt.last' hr2 hb1 hr1 hq1
        | exact FrAt.stores (hBk2.out _ _ (Blk.new _ _ _)) (hr1.below (Below.trans ((Below.refl _ _).alloc (Nat.le_refl _) _) (hb2.mono (by simp)))) hr2 hq1.size hq2
        | exact FrAt.stores (hBk1.out _ _ (Blk.new _ _ _)) hr1 (hr2.below (Below.trans ((Below.refl _ _).alloc (Nat.le_refl _) _) (hb1.mono (by simp)))) hq2.size hq1
        | exact FrAt.stores (hBk2.out _ _ (hBk1.out _ _ (Blk.new _ _ _))) (hr1.below hb2) hr2 (Nat.le_refl _) hq2
        | exact FrAt.stores (hBk1.out _ _ (hBk2.out _ _ (Blk.new _ _ _))) hr1 (hr2.below hb1) (Nat.le_refl _) hq1
        | exact FrAt.stores (hBk2.out _ _ (hBk1.out _ _ (Blk.drew (Blk.new _ _ _)))) (hr1.below hb2) hr2 (Nat.le_refl _) hq2
        | exact FrAt.stores (hBk1.out _ _ (hBk2.out _ _ (Blk.drew (Blk.new _ _ _)))) hr1 (hr2.below hb1) (Nat.le_refl _) hq1
  case rest =>
  clear hq0 HK1 HK2
  obtain ⟨A1, n1, k1, A2, n2, k2, g, rfl, hfr, hg1, hbx⟩ := hcut
  have B1 := B1.below hbx (by have := HSZ.out; omega)
  have hbw := hbw.trans (hbx.mono (by have := HSZ.out; omega))
  have hz0 := hbx.size
  clear c1 hbx
  have HFR := Lib.hid hfr
  obtain ⟨c0, c1, c2, hrn, hrd⟩ := hfr
  have HRN := Lib.hid hrn
  have HRD := Lib.hid hrd
  clear hrn hrd
  have HGW := Lib.hid (show w.heap.size + 2 ≤ g by have := HSZ.out; omega)
  clear hg1
  go_wp2_with fail
  refine (gcd_rep wc 223 _ _ _ _ HRN.out HRD.out (by omega)).mono ?_
  rintro e w7 ⟨⟨vg, rfl, hrg⟩, hb7⟩
  obtain ⟨Ag, ng', cg, rfl, hg0, -⟩ := hrg.form
  have HRG := Lib.hid hrg
  have B1 := B1.below hb7 B1.lt
  have HFR := Lib.hid (HFR.out.below hb7)
  have hbw := hbw.trans (hb7.mono (by omega))
  clear c0 c1 c2 hrg hg0
  obtain ⟨G, hG⟩ : ∃ G, Nat.gcd (digVal nn.data.toList) (digVal d.data.toList) = G := ⟨_, rfl⟩
  rw [hG] at HG HRG
  have f0 : w7.cell? ⟨w.heap.size + 1, 0, none⟩ = some (.bool false) := B1.cell 0
  have f1 : w7.cell? ⟨w.heap.size + 1, 1, none⟩ = some (.slice none 0 0) := B1.cell 1
  have f2 : w7.cell? ⟨w.heap.size + 1, 2, none⟩ = some (.slice none 0 0) := B1.cell 2
  have z0 : w7.frozen? ⟨w.heap.size + 1, 0, none⟩ = false := B1.frozen 0
  have z1 : w7.frozen? ⟨w.heap.size + 1, 1, none⟩ = false := B1.frozen 1
  have z2 : w7.frozen? ⟨w.heap.size + 1, 2, none⟩ = false := B1.frozen 2
  by_cases hg1 : ng' = 1
  · obtain ⟨ad, rfl, hca⟩ := HRG.out.one hg1
    rw [add_zero_addr] at hca
    subst hg1
    by_cases hG1 : G = 1
    · subst hG1
      obtain ⟨c0, c1, c2, -, -⟩ := HFR.out
      have hH : fltR (rx n d) = 0 := HG.out.2 rfl
      have HF := Lib.hid hH
      have HRES := Lib.hid (HFR.out.store B1)
      replace hca : w7.cell? ad = some (.int .u64 1) := hca
      clear hG hH
      go_wp2
      obtain ⟨W9, hW9⟩ : ∃ W9, W9 = ((w7.setCell ⟨w.heap.size + 1, 0, none⟩ (.bool ng)).setCell ⟨w.heap.size + 1, 1, none⟩ (.slice A1 n1 k1)).setCell ⟨w.heap.size + 1, 2, none⟩ (.slice A2 n2 k2) := ⟨_, rfl⟩
      have B9 : Blk W9 (w.heap.size + 1) 47 #[.bool ng, .slice A1 n1 k1, .slice A2 n2 k2] := hW9 ▸ ((B1.set_ 0 _).set_ 1 _).set_ 2 _
      have hbw9 : Below w.heap.size w W9 := hW9 ▸ ((hbw.setCell (p := ⟨w.heap.size + 1, 0, none⟩) (Nat.le_succ _) _).setCell (p := ⟨w.heap.size + 1, 1, none⟩) (Nat.le_succ _) _).setCell (p := ⟨w.heap.size + 1, 2, none⟩) (Nat.le_succ _) _
      rw [← hW9] at HRES ⊢
      clear hW9
      have q0 : W9.cell? ⟨w.heap.size + 1, 0, none⟩ = some (.bool ng) := B9.cell 0
      have q1 : W9.cell? ⟨w.heap.size + 1, 1, none⟩ = some (.slice A1 n1 k1) := B9.cell 1
      have q2 : W9.cell? ⟨w.heap.size + 1, 2, none⟩ = some (.slice A2 n2 k2) := B9.cell 2
      refine bodyPost_ret (v := .tuple #[.agg #[.bool ng, .slice A1 n1 k1, .slice A2 n2 k2], .int .i64 0]) (by simp [results, Tryz.results28, go_sem, q0, q1, q2]) rfl ⟨⟨_, by rw [HF.out]; rfl, ⟨fun _ => ?_, fun h => absurd HF.out h⟩⟩, hbw9⟩
      exact ⟨⟨_, _, by rw [show (cutN (rx n d).n).2 = ng from HNG.out], by rw [show digVal (cutN (rx n d).n).1 = digVal nn.data.toList by rw [HNN.out]; rfl]; exact HRES.out.1, HRES.out.2, HY.out⟩⟩
    · have hG2 : (((G : Nat) : Int) != 1) = true := by simp; omega
      have HF := Lib.hid (show fltR (rx n d) = 3 from HG.out.1 hG1)
      go_wp2
      obtain ⟨W9, hW9⟩ : ∃ W9, W9 = ((w7.setCell ⟨w.heap.size + 1, 0, none⟩ (.bool false)).setCell ⟨w.heap.size + 1, 1, none⟩ (.slice none 0 0)).setCell ⟨w.heap.size + 1, 2, none⟩ (.slice none 0 0) := ⟨_, rfl⟩
      have B9 : Blk W9 (w.heap.size + 1) 47 #[.bool false, .slice none 0 0, .slice none 0 0] := hW9 ▸ ((B1.set_ 0 _).set_ 1 _).set_ 2 _
      have hbw9 : Below w.heap.size w W9 := hW9 ▸ ((hbw.setCell (p := ⟨w.heap.size + 1, 0, none⟩) (Nat.le_succ _) _).setCell (p := ⟨w.heap.size + 1, 1, none⟩) (Nat.le_succ _) _).setCell (p := ⟨w.heap.size + 1, 2, none⟩) (Nat.le_succ _) _
      rw [← hW9]
      clear hW9
      have q0 : W9.cell? ⟨w.heap.size + 1, 0, none⟩ = some (.bool false) := B9.cell 0
      have q1 : W9.cell? ⟨w.heap.size + 1, 1, none⟩ = some (.slice none 0 0) := B9.cell 1
      have q2 : W9.cell? ⟨w.heap.size + 1, 2, none⟩ = some (.slice none 0 0) := B9.cell 2
      exact fail_end 3 HF.out (by simp [results, Tryz.results28, go_sem, q0, q1, q2]) hbw9
  · have HF := Lib.hid (show fltR (rx n d) = 3 from HG.out.1 (fun h => by
      subst h
      exact hg1 HRG.out.one_of))
    have hn1 : (((ng' : Nat) : Int) != 1) = true := by simp; omega
    go_wp2
    obtain ⟨W9, hW9⟩ : ∃ W9, W9 = ((w7.setCell ⟨w.heap.size + 1, 0, none⟩ (.bool false)).setCell ⟨w.heap.size + 1, 1, none⟩ (.slice none 0 0)).setCell ⟨w.heap.size + 1, 2, none⟩ (.slice none 0 0) := ⟨_, rfl⟩
    have B9 : Blk W9 (w.heap.size + 1) 47 #[.bool false, .slice none 0 0, .slice none 0 0] := hW9 ▸ ((B1.set_ 0 _).set_ 1 _).set_ 2 _
    have hbw9 : Below w.heap.size w W9 := hW9 ▸ ((hbw.setCell (p := ⟨w.heap.size + 1, 0, none⟩) (Nat.le_succ _) _).setCell (p := ⟨w.heap.size + 1, 1, none⟩) (Nat.le_succ _) _).setCell (p := ⟨w.heap.size + 1, 2, none⟩) (Nat.le_succ _) _
    rw [← hW9]
    clear hW9
    have q0 : W9.cell? ⟨w.heap.size + 1, 0, none⟩ = some (.bool false) := B9.cell 0
    have q1 : W9.cell? ⟨w.heap.size + 1, 1, none⟩ = some (.slice none 0 0) := B9.cell 1
    have q2 : W9.cell? ⟨w.heap.size + 1, 2, none⟩ = some (.slice none 0 0) := B9.cell 2
    exact fail_end 3 HF.out (by simp [results, Tryz.results28, go_sem, q0, q1, q2]) hbw9
end Go.Proofs.YtmpelpmhbadjoaaGreatDoor
