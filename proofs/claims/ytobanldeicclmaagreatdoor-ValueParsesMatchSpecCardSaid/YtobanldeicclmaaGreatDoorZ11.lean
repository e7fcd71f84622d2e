/- Lemmas for the claim: walks and plain laws. -/
import Derived.Test.YtobanldeicclmaaGreatDoorZ9
import Derived.Test.YtobanldeicclmaaGreatDoorZ10
set_option maxHeartbeats 4000000
set_option maxRecDepth 100000
namespace Go.Proofs.YtobanldeicclmaaGreatDoor
open Go.RowKit
theorem Gs (k op : Int) (nm : ByteArray) (v : Val) (n : Nat) (hk : Int) (A : Option Addr) (c : Nat) (A' : Option Addr) (c' : Nat) (w : World) (ho : bF k 1 5 = true) :
  Calls Tryz.prog 62 #[.agg #[.int .i64 k, .int .i64 op, .string nm, .int .i64 v.k, .int .i64 v.n, .string v.s, .slice A v.l.length c, .slice A' n c']] w fun e w' => e = .returned (.int .i64 (iM k op nm v n hk)) ∧ Below w.heap.size w w' := by
 have HO := qh ho
 clear ho
 go_enter Tryz.func62, Tryz.ntmps62
 go_wp2_with fail
 obtain ⟨W, hW⟩ := au ((w.alloc (.cells #[.int .i64 k, .int .i64 op, .string nm, .int .i64 v.k, .int .i64 v.n, .string v.s, .slice A v.l.length c, .slice A' n c'] 27 (0, 0))))
 have hbw : Below w.heap.size w W := by rw [hW]; exact ((Below.refl _ w).alloc (Nat.le_refl _) _)
 have B0 : af W (w.heap.size) 27 #[.int .i64 k, .int .i64 op, .string nm, .int .i64 v.k, .int .i64 v.n, .string v.s, .slice A v.l.length c, .slice A' n c'] := by
  rw [hW]
  have := af.new w 27 #[.int .i64 k, .int .i64 op, .string nm, .int .i64 v.k, .int .i64 v.n, .string v.s, .slice A v.l.length c, .slice A' n c']
  exact this
 have hsz : W.heap.size = w.heap.size + 1 := by rw [hW]; simp
 rw [← hW]
 clear hW hsz
 obtain ⟨aQ, aS, aT, aU, aY, aZ, bu, bz⟩ := af.c8 B0
 refine (bC _ _ _ W).mono ?_
 rw [HO.out]
 rintro e1 w1 ⟨rfl, rfl⟩
 go_wp2
 go_ret
 exact ⟨ah (by rw [Fh HO.out]), hbw⟩
theorem La (op : Int) (nm : ByteArray) (v : Val) (n : Nat) (hk : Int) (A : Option Addr) (c : Nat) (A' : Option Addr) (c' B : Nat) (w : World) (hnm : nm.size ≤ maxLen) (hvs : v.s.size ≤ maxLen) (hvl : v.l.length ≤ maxLen) (hn : n ≤ maxLen)
  (hx : Reads w B 1 A v.l.length (dS .i64 v.l)) (hB : B ≤ w.heap.size) (hA : 0 < n → ∃ ad, A' = some ad ∧ ad.block < B ∧ w.cell? ad = some (.int .i64 hk)) (hsp : Sp w) (hn4 : n ≤ 1099511627776) :
  Calls Tryz.prog 62 #[.agg #[.int .i64 1, .int .i64 op, .string nm, .int .i64 v.k, .int .i64 v.n, .string v.s, .slice A v.l.length c, .slice A' n c']] w fun e w' => e = .returned (.int .i64 (iM 1 op nm v n hk)) ∧ Below w.heap.size w w' := by
 have HX := qh (And.intro hx hB)
 have HA := qh hA
 have zM := qh hn
 have DK := qh hsp
 clear hsp
 unfold maxLen at hn
 clear hx hB hA
 go_enter Tryz.func62, Tryz.ntmps62
 go_wp2_with fail
 obtain ⟨W, hW⟩ := au ((w.alloc (.cells #[.int .i64 1, .int .i64 op, .string nm, .int .i64 v.k, .int .i64 v.n, .string v.s, .slice A v.l.length c, .slice A' n c'] 27 (0, 0))))
 have hbw : Below w.heap.size w W := by rw [hW]; exact ((Below.refl _ w).alloc (Nat.le_refl _) _)
 have B0 : af W (w.heap.size) 27 #[.int .i64 1, .int .i64 op, .string nm, .int .i64 v.k, .int .i64 v.n, .string v.s, .slice A v.l.length c, .slice A' n c'] := by
  rw [hW]
  have := af.new w 27 #[.int .i64 1, .int .i64 op, .string nm, .int .i64 v.k, .int .i64 v.n, .string v.s, .slice A v.l.length c, .slice A' n c']
  exact this
 have hsz : W.heap.size = w.heap.size + 1 := by rw [hW]; simp
 rw [← hW]
 clear hW hsz
 obtain ⟨aQ, aS, aT, aU, aY, aZ, bu, bz⟩ := af.c8 B0
 refine (bC _ _ _ W).mono ?_
 rw [oH (by omega) (by omega)]
 rintro e1 w1 ⟨rfl, rfl⟩
 by_cases hop : op = 0
 rotate_left
 ·
  have HXB := qh (show aG 1 op nm v n = true by unfold aG; rw [if_pos (.inr (.inl ⟨by omega, .inl hop⟩))])
  have bo : (op != 0) = true := by simpa using hop
  clear hop
  go_wp2
  go_ret
  exact ⟨ah (by rw [iG (by omega) (by omega) (by omega) (by omega) (HXB.out)]), hbw⟩
 have bo : (op != 0) = false := by simpa using hop
 by_cases hn0 : 0 < n
 ·
  have HXB := qh (show aG 1 op nm v n = true by unfold aG; rw [if_pos (.inr (.inl ⟨by omega, .inr hn0⟩))])
  have hi0 : (0 : Int) < n := by omega
  clear hop
  go_wp2
  go_ret
  exact ⟨ah (by rw [iG (by omega) (by omega) (by omega) (by omega) (HXB.out)]), hbw⟩
 have hi0 : ¬ (0 : Int) < n := by omega
 have Q5 := qh (And.intro hop hn0)
 clear hop
 by_cases hnn : nm.toList = []
 rotate_left
 ·
  have HXB := qh (show aG 1 op nm v n = true by unfold aG; rw [if_pos (.inr (.inr ⟨by omega, hnn⟩))])
  have se : nm.toList.isEmpty = false := by cases h : nm.toList with
   | nil => exact absurd h hnn
   | cons a r => rfl
  clear hnn
  go_wp2
  go_ret
  exact ⟨ah (by rw [iG (by omega) (by omega) (by omega) (by omega) (HXB.out)]), hbw⟩
 have se : nm.toList.isEmpty = true := by rw [hnn]; rfl
 have Ic := qh hnn
 clear hnn
 have HXB := qh (show aG 1 op nm v n = false by unfold aG; rw [if_neg (by simp [Q5.out.1, Ic.out]; have := Q5.out.2; omega), if_neg (by omega)]; simp)
 have HP := qh (NP (hk := hk) HXB.out)
 by_cases hv0 : v.k = 0
 ·
  have HG := qh (HP.out.trans (if_pos (by omega)))
  have bv : (v.k == 0) = true := by rw [beq_iff_eq]; exact hv0
  clear hv0
  go_wp2
  go_ret
  exact ⟨ah (by rw [HG.out]), hbw⟩
 have bv0 : (v.k == 0) = false := by rw [beq_eq_false_iff_ne]; exact hv0
 by_cases hv1 : v.k = 1
 ·
  have HG := qh (HP.out.trans (if_pos (by omega)))
  have bv : (v.k == 1) = true := by rw [beq_iff_eq]; exact hv1
  clear hv1 hv0
  go_wp2
  go_ret
  exact ⟨ah (by rw [HG.out]), hbw⟩
 have bv1 : (v.k == 1) = false := by rw [beq_eq_false_iff_ne]; exact hv1
 have HG := qh (HP.out.trans (if_neg (by omega)))
 clear hv0 hv1
 go_wp2_with fail
 refine (iL v A c _ W hvl hvs ((HX.out.1.more HX.out.2).below hbw) hbw.size).mono ?_
 rintro e w5 ⟨rfl, hb5⟩
 have hbw := hbw.trans (hb5.mono hbw.size)
 go_wp2
 go_ret
 exact ⟨ah (by rw [HG.out]), hbw⟩
theorem Lc (op : Int) (nm : ByteArray) (v : Val) (n : Nat) (hk : Int) (A : Option Addr) (c : Nat) (A' : Option Addr) (c' B : Nat) (w : World) (hnm : nm.size ≤ maxLen) (hvs : v.s.size ≤ maxLen) (hvl : v.l.length ≤ maxLen) (hn : n ≤ maxLen)
  (hx : Reads w B 1 A v.l.length (dS .i64 v.l)) (hB : B ≤ w.heap.size) (hA : 0 < n → ∃ ad, A' = some ad ∧ ad.block < B ∧ w.cell? ad = some (.int .i64 hk)) (hsp : Sp w) (hn4 : n ≤ 1099511627776) :
  Calls Tryz.prog 62 #[.agg #[.int .i64 2, .int .i64 op, .string nm, .int .i64 v.k, .int .i64 v.n, .string v.s, .slice A v.l.length c, .slice A' n c']] w fun e w' => e = .returned (.int .i64 (iM 2 op nm v n hk)) ∧ Below w.heap.size w w' := by
 have HX := qh (And.intro hx hB)
 have HA := qh hA
 have zM := qh hn
 have DK := qh hsp
 clear hsp
 unfold maxLen at hn
 clear hx hB hA
 obtain ⟨z, hz⟩ := ae (kS v)
 have HZ := qh hz
 clear hz
 go_enter Tryz.func62, Tryz.ntmps62
 go_wp2_with fail
 obtain ⟨W, hW⟩ := au ((w.alloc (.cells #[.int .i64 2, .int .i64 op, .string nm, .int .i64 v.k, .int .i64 v.n, .string v.s, .slice A v.l.length c, .slice A' n c'] 27 (0, 0))))
 have hbw : Below w.heap.size w W := by rw [hW]; exact ((Below.refl _ w).alloc (Nat.le_refl _) _)
 have B0 : af W (w.heap.size) 27 #[.int .i64 2, .int .i64 op, .string nm, .int .i64 v.k, .int .i64 v.n, .string v.s, .slice A v.l.length c, .slice A' n c'] := by
  rw [hW]
  have := af.new w 27 #[.int .i64 2, .int .i64 op, .string nm, .int .i64 v.k, .int .i64 v.n, .string v.s, .slice A v.l.length c, .slice A' n c']
  exact this
 have hsz : W.heap.size = w.heap.size + 1 := by rw [hW]; simp
 rw [← hW]
 clear hW hsz
 obtain ⟨aQ, aS, aT, aU, aY, aZ, bu, bz⟩ := af.c8 B0
 refine (bC _ _ _ W).mono ?_
 rw [oH (by omega) (by omega)]
 rintro e1 w1 ⟨rfl, rfl⟩
 by_cases hop : op = 0
 rotate_left
 ·
  have HXB := qh (show aG 2 op nm v n = true by unfold aG; rw [if_pos (.inr (.inl ⟨by omega, .inl hop⟩))])
  have bo : (op != 0) = true := by simpa using hop
  clear hop
  go_wp2
  go_ret
  exact ⟨ah (by rw [iG (by omega) (by omega) (by omega) (by omega) (HXB.out)]), hbw⟩
 have bo : (op != 0) = false := by simpa using hop
 by_cases hn0 : 0 < n
 ·
  have HXB := qh (show aG 2 op nm v n = true by unfold aG; rw [if_pos (.inr (.inl ⟨by omega, .inr hn0⟩))])
  have hi0 : (0 : Int) < n := by omega
  clear hop
  go_wp2
  go_ret
  exact ⟨ah (by rw [iG (by omega) (by omega) (by omega) (by omega) (HXB.out)]), hbw⟩
 have hi0 : ¬ (0 : Int) < n := by omega
 have Q5 := qh (And.intro hop hn0)
 clear hop
 go_wp2_with fail
 refine (xQ v A c W).mono ?_
 rw [HZ.out]
 rintro e2 w2 ⟨rfl, hb2⟩
 have B0 := B0.below hb2 B0.lt
 have hbw := hbw.trans (hb2.mono hbw.size)
 clear hb2 aQ aS aT aU aY aZ bu bz
 obtain ⟨aQ, aS, aT, aU, aY, aZ, bu, bz⟩ := af.c8 B0
 cases z
 ·
  have HXB := qh (show aG 2 op nm v n = true by unfold aG; rw [if_pos (.inl ⟨by omega, HZ.out⟩)])
  go_wp2
  go_ret
  exact ⟨ah (by rw [iG (by omega) (by omega) (by omega) (by omega) (HXB.out)]), hbw⟩
 have HXB := qh (show aG 2 op nm v n = false by unfold aG; rw [if_neg (by simp [Q5.out.1, HZ.out]; have := Q5.out.2; omega), if_neg (by omega)]; simp)
 obtain ⟨b, hb⟩ := ae (eu nm.data.toList)
 have HB := qh hb
 have HP := qh (vJ (hk := hk) (k := 2) (by omega) (by omega) HXB.out)
 clear hb
 go_wp2_with fail
 refine (uJ nm w2 hnm (bD DK.out hbw)).mono ?_
 rw [HB.out]
 rintro e3 w3 ⟨rfl, hb3⟩
 have B0 := B0.below hb3 B0.lt
 have hbw := hbw.trans (hb3.mono hbw.size)
 clear hb3 aQ aS aT aU aY aZ bu bz
 obtain ⟨aQ, aS, aT, aU, aY, aZ, bu, bz⟩ := af.c8 B0
 cases b
 ·
  go_wp2
  go_ret
  exact ⟨ah (by rw [HP.out, HB.out]; rfl), hbw⟩
 ·
  go_wp2
  go_ret
  exact ⟨ah (by rw [HP.out, HB.out]; rfl), hbw⟩
theorem Ld (op : Int) (nm : ByteArray) (v : Val) (n : Nat) (hk : Int) (A : Option Addr) (c : Nat) (A' : Option Addr) (c' B : Nat) (w : World) (hnm : nm.size ≤ maxLen) (hvs : v.s.size ≤ maxLen) (hvl : v.l.length ≤ maxLen) (hn : n ≤ maxLen)
  (hx : Reads w B 1 A v.l.length (dS .i64 v.l)) (hB : B ≤ w.heap.size) (hA : 0 < n → ∃ ad, A' = some ad ∧ ad.block < B ∧ w.cell? ad = some (.int .i64 hk)) (hsp : Sp w) (hn4 : n ≤ 1099511627776) :
  Calls Tryz.prog 62 #[.agg #[.int .i64 3, .int .i64 op, .string nm, .int .i64 v.k, .int .i64 v.n, .string v.s, .slice A v.l.length c, .slice A' n c']] w fun e w' => e = .returned (.int .i64 (iM 3 op nm v n hk)) ∧ Below w.heap.size w w' := by
 have HX := qh (And.intro hx hB)
 have HA := qh hA
 have zM := qh hn
 have DK := qh hsp
 clear hsp
 unfold maxLen at hn
 clear hx hB hA
 obtain ⟨z, hz⟩ := ae (kS v)
 have HZ := qh hz
 clear hz
 go_enter Tryz.func62, Tryz.ntmps62
 go_wp2_with fail
 obtain ⟨W, hW⟩ := au ((w.alloc (.cells #[.int .i64 3, .int .i64 op, .string nm, .int .i64 v.k, .int .i64 v.n, .string v.s, .slice A v.l.length c, .slice A' n c'] 27 (0, 0))))
 have hbw : Below w.heap.size w W := by rw [hW]; exact ((Below.refl _ w).alloc (Nat.le_refl _) _)
 have B0 : af W (w.heap.size) 27 #[.int .i64 3, .int .i64 op, .string nm, .int .i64 v.k, .int .i64 v.n, .string v.s, .slice A v.l.length c, .slice A' n c'] := by
  rw [hW]
  have := af.new w 27 #[.int .i64 3, .int .i64 op, .string nm, .int .i64 v.k, .int .i64 v.n, .string v.s, .slice A v.l.length c, .slice A' n c']
  exact this
 have hsz : W.heap.size = w.heap.size + 1 := by rw [hW]; simp
 rw [← hW]
 clear hW hsz
 obtain ⟨aQ, aS, aT, aU, aY, aZ, bu, bz⟩ := af.c8 B0
 refine (bC _ _ _ W).mono ?_
 rw [oH (by omega) (by omega)]
 rintro e1 w1 ⟨rfl, rfl⟩
 by_cases hop : op = 0
 rotate_left
 ·
  have HXB := qh (show aG 3 op nm v n = true by unfold aG; rw [if_pos (.inr (.inl ⟨by omega, .inl hop⟩))])
  have bo : (op != 0) = true := by simpa using hop
  clear hop
  go_wp2
  go_ret
  exact ⟨ah (by rw [iG (by omega) (by omega) (by omega) (by omega) (HXB.out)]), hbw⟩
 have bo : (op != 0) = false := by simpa using hop
 by_cases hn0 : 0 < n
 ·
  have HXB := qh (show aG 3 op nm v n = true by unfold aG; rw [if_pos (.inr (.inl ⟨by omega, .inr hn0⟩))])
  have hi0 : (0 : Int) < n := by omega
  clear hop
  go_wp2
  go_ret
  exact ⟨ah (by rw [iG (by omega) (by omega) (by omega) (by omega) (HXB.out)]), hbw⟩
 have hi0 : ¬ (0 : Int) < n := by omega
 have Q5 := qh (And.intro hop hn0)
 clear hop
 go_wp2_with fail
 refine (xQ v A c W).mono ?_
 rw [HZ.out]
 rintro e2 w2 ⟨rfl, hb2⟩
 have B0 := B0.below hb2 B0.lt
 have hbw := hbw.trans (hb2.mono hbw.size)
 clear hb2 aQ aS aT aU aY aZ bu bz
 obtain ⟨aQ, aS, aT, aU, aY, aZ, bu, bz⟩ := af.c8 B0
 cases z
 ·
  have HXB := qh (show aG 3 op nm v n = true by unfold aG; rw [if_pos (.inl ⟨by omega, HZ.out⟩)])
  go_wp2
  go_ret
  exact ⟨ah (by rw [iG (by omega) (by omega) (by omega) (by omega) (HXB.out)]), hbw⟩
 have HXB := qh (show aG 3 op nm v n = false by unfold aG; rw [if_neg (by simp [Q5.out.1, HZ.out]; have := Q5.out.2; omega), if_neg (by omega)]; simp)
 obtain ⟨b, hb⟩ := ae (eu nm.data.toList)
 have HB := qh hb
 have HP := qh (vJ (hk := hk) (k := 3) (by omega) (by omega) HXB.out)
 clear hb
 go_wp2_with fail
 refine (uJ nm w2 hnm (bD DK.out hbw)).mono ?_
 rw [HB.out]
 rintro e3 w3 ⟨rfl, hb3⟩
 have B0 := B0.below hb3 B0.lt
 have hbw := hbw.trans (hb3.mono hbw.size)
 clear hb3 aQ aS aT aU aY aZ bu bz
 obtain ⟨aQ, aS, aT, aU, aY, aZ, bu, bz⟩ := af.c8 B0
 cases b
 ·
  go_wp2
  go_ret
  exact ⟨ah (by rw [HP.out, HB.out]; rfl), hbw⟩
 ·
  go_wp2
  go_ret
  exact ⟨ah (by rw [HP.out, HB.out]; rfl), hbw⟩
theorem Le (op : Int) (nm : ByteArray) (v : Val) (n : Nat) (hk : Int) (A : Option Addr) (c : Nat) (A' : Option Addr) (c' B : Nat) (w : World) (hnm : nm.size ≤ maxLen) (hvs : v.s.size ≤ maxLen) (hvl : v.l.length ≤ maxLen) (hn : n ≤ maxLen)
  (hx : Reads w B 1 A v.l.length (dS .i64 v.l)) (hB : B ≤ w.heap.size) (hA : 0 < n → ∃ ad, A' = some ad ∧ ad.block < B ∧ w.cell? ad = some (.int .i64 hk)) (hsp : Sp w) (hn4 : n ≤ 1099511627776) :
  Calls Tryz.prog 62 #[.agg #[.int .i64 4, .int .i64 op, .string nm, .int .i64 v.k, .int .i64 v.n, .string v.s, .slice A v.l.length c, .slice A' n c']] w fun e w' => e = .returned (.int .i64 (iM 4 op nm v n hk)) ∧ Below w.heap.size w w' := by
 have HX := qh (And.intro hx hB)
 have HA := qh hA
 have zM := qh hn
 have DK := qh hsp
 clear hsp
 unfold maxLen at hn
 clear hx hB hA
 obtain ⟨o, ho⟩ := ae (bF op 1 39)
 have HO := qh ho
 clear ho
 obtain ⟨z, hz⟩ := ae (kS v)
 have HZ := qh hz
 clear hz
 go_enter Tryz.func62, Tryz.ntmps62
 go_wp2_with fail
 obtain ⟨W, hW⟩ := au ((w.alloc (.cells #[.int .i64 4, .int .i64 op, .string nm, .int .i64 v.k, .int .i64 v.n, .string v.s, .slice A v.l.length c, .slice A' n c'] 27 (0, 0))))
 have hbw : Below w.heap.size w W := by rw [hW]; exact ((Below.refl _ w).alloc (Nat.le_refl _) _)
 have B0 : af W (w.heap.size) 27 #[.int .i64 4, .int .i64 op, .string nm, .int .i64 v.k, .int .i64 v.n, .string v.s, .slice A v.l.length c, .slice A' n c'] := by
  rw [hW]
  have := af.new w 27 #[.int .i64 4, .int .i64 op, .string nm, .int .i64 v.k, .int .i64 v.n, .string v.s, .slice A v.l.length c, .slice A' n c']
  exact this
 have hsz : W.heap.size = w.heap.size + 1 := by rw [hW]; simp
 rw [← hW]
 clear hW hsz
 obtain ⟨aQ, aS, aT, aU, aY, aZ, bu, bz⟩ := af.c8 B0
 refine (bC _ _ _ W).mono ?_
 rw [oH (by omega) (by omega)]
 rintro e1 w1 ⟨rfl, rfl⟩
 go_wp2_with fail
 refine (bC _ _ _ W).mono ?_
 rw [HO.out]
 rintro e2 w2 ⟨rfl, rfl⟩
 cases o
 rotate_left
 ·
  go_wp2
  go_ret
  exact ⟨ah (by rw [IX HO.out]), hbw⟩
 by_cases hnn : nm.toList = []
 rotate_left
 ·
  have HXB := qh (show aG 4 op nm v n = true by unfold aG; rw [if_pos (.inr (.inr ⟨by omega, hnn⟩))])
  have se : nm.toList.isEmpty = false := by cases h : nm.toList with
   | nil => exact absurd h hnn
   | cons a r => rfl
  clear hnn
  go_wp2
  go_ret
  exact ⟨ah (by rw [iG (by omega) (by omega) (fun _ => HO.out) (by omega) (HXB.out)]), hbw⟩
 have se : nm.toList.isEmpty = true := by rw [hnn]; rfl
 have Ic := qh hnn
 clear hnn
 go_wp2_with fail
 refine (xQ v A c W).mono ?_
 rw [HZ.out]
 rintro e3 w3 ⟨rfl, hb3⟩
 have B0 := B0.below hb3 B0.lt
 have hbw := hbw.trans (hb3.mono hbw.size)
 clear hb3 aQ aS aT aU aY aZ bu bz
 obtain ⟨aQ, aS, aT, aU, aY, aZ, bu, bz⟩ := af.c8 B0
 cases z
 ·
  have HXB := qh (show aG 4 op nm v n = true by unfold aG; rw [if_pos (.inl ⟨by omega, HZ.out⟩)])
  go_wp2
  go_ret
  exact ⟨ah (by rw [iG (by omega) (by omega) (fun _ => HO.out) (by omega) (HXB.out)]), hbw⟩
 have VX : 1 ≤ op ∧ op ≤ 39 := by have h := HO.out; simp [bF] at h; omega
 obtain ⟨VX, aad⟩ := VX
 obtain ⟨r, hr⟩ := ae (IW op n)
 have HR := qh hr
 have aae := qh (show aG 4 op nm v n = !r by
  rw [← hr, Yn op n VX aad hn4]
  unfold aG
  rw [if_neg (by simp [HZ.out, Ic.out]), if_neg (by omega)]
  simp [bF])
 clear hr
 go_wp2_with fail
 refine (KY op n w3 VX aad zM.out).mono ?_
 rw [HR.out]
 rintro e4 w4 ⟨rfl, hb4⟩
 have B0 := B0.below hb4 B0.lt
 have hbw := hbw.trans (hb4.mono hbw.size)
 clear hb4 aQ aS aT aU aY aZ bu bz
 obtain ⟨aQ, aS, aT, aU, aY, aZ, bu, bz⟩ := af.c8 B0
 cases r
 ·
  have HXB := qh (aae.out)
  go_wp2
  go_ret
  exact ⟨ah (by rw [iG (by omega) (by omega) (fun _ => HO.out) (by omega) (HXB.out)]), hbw⟩
 have HXB := qh (show aG 4 op nm v n = false from aae.out)
 have HP := qh (NQ (hk := hk) HO.out HXB.out)
 obtain ⟨q, hq⟩ := ae (bF op 12 14)
 have HQ := qh hq
 clear hq
 go_wp2_with fail
 refine (bC _ _ _ w4).mono ?_
 rw [HQ.out]
 rintro e5 w5 ⟨rfl, rfl⟩
 cases q
 rotate_left
 ·
  have HG := qh (HP.out.trans (if_neg (by have h := HQ.out; simp [bF] at h; omega)))
  go_wp2
  go_ret
  exact ⟨ah (by rw [HG.out]), hbw⟩
 have hqq : 12 ≤ op ∧ op ≤ 14 := by have h := HQ.out; simp [bF] at h; omega
 obtain ⟨hq1, hq2⟩ := hqq
 have hn1 : n = 1 := by
  have h := HXB.out
  have e := xR (op := op) (by omega)
  unfold aG at h
  rw [e] at h
  split at h
  ·
   cases h
  ·
   simp at h; omega
 obtain ⟨ad, rfl, had, hcell⟩ := HA.out (by omega)
 have hck : w4.cell? ad = some (.int .i64 hk) := by rw [hbw.cell (by have := HX.out.2; omega)]; exact hcell
 have hn0 : 0 < n := by omega
 have hn2 : (0 : Int) < n := by omega
 by_cases hk2 : hk = 2
 ·
  have HG := qh (HP.out.trans (if_neg (by omega)))
  have bk : (hk != 2) = false := by simp [hk2]
  clear hk2 hn1
  go_wp2
  go_ret
  exact ⟨ah (by rw [HG.out]), hbw⟩
 ·
  have HG := qh (HP.out.trans (if_pos (by omega)))
  have bk : (hk != 2) = true := by simpa using hk2
  clear hk2 hn1
  go_wp2
  go_ret
  exact ⟨ah (by rw [HG.out]), hbw⟩
theorem Lh (op : Int) (nm : ByteArray) (v : Val) (n : Nat) (hk : Int) (A : Option Addr) (c : Nat) (A' : Option Addr) (c' B : Nat) (w : World) (hnm : nm.size ≤ maxLen) (hvs : v.s.size ≤ maxLen) (hvl : v.l.length ≤ maxLen) (hn : n ≤ maxLen)
  (hx : Reads w B 1 A v.l.length (dS .i64 v.l)) (hB : B ≤ w.heap.size) (hA : 0 < n → ∃ ad, A' = some ad ∧ ad.block < B ∧ w.cell? ad = some (.int .i64 hk)) (hsp : Sp w) (hn4 : n ≤ 1099511627776) :
  Calls Tryz.prog 62 #[.agg #[.int .i64 5, .int .i64 op, .string nm, .int .i64 v.k, .int .i64 v.n, .string v.s, .slice A v.l.length c, .slice A' n c']] w fun e w' => e = .returned (.int .i64 (iM 5 op nm v n hk)) ∧ Below w.heap.size w w' := by
 have HX := qh (And.intro hx hB)
 have HA := qh hA
 have zM := qh hn
 have DK := qh hsp
 clear hsp
 unfold maxLen at hn
 clear hx hB hA
 obtain ⟨o, ho⟩ := ae (bF op 1 6)
 have HO := qh ho
 clear ho
 obtain ⟨z, hz⟩ := ae (kS v)
 have HZ := qh hz
 clear hz
 go_enter Tryz.func62, Tryz.ntmps62
 go_wp2_with fail
 obtain ⟨W, hW⟩ := au ((w.alloc (.cells #[.int .i64 5, .int .i64 op, .string nm, .int .i64 v.k, .int .i64 v.n, .string v.s, .slice A v.l.length c, .slice A' n c'] 27 (0, 0))))
 have hbw : Below w.heap.size w W := by rw [hW]; exact ((Below.refl _ w).alloc (Nat.le_refl _) _)
 have B0 : af W (w.heap.size) 27 #[.int .i64 5, .int .i64 op, .string nm, .int .i64 v.k, .int .i64 v.n, .string v.s, .slice A v.l.length c, .slice A' n c'] := by
  rw [hW]
  have := af.new w 27 #[.int .i64 5, .int .i64 op, .string nm, .int .i64 v.k, .int .i64 v.n, .string v.s, .slice A v.l.length c, .slice A' n c']
  exact this
 have hsz : W.heap.size = w.heap.size + 1 := by rw [hW]; simp
 rw [← hW]
 clear hW hsz
 obtain ⟨aQ, aS, aT, aU, aY, aZ, bu, bz⟩ := af.c8 B0
 refine (bC _ _ _ W).mono ?_
 rw [oH (by omega) (by omega)]
 rintro e1 w1 ⟨rfl, rfl⟩
 go_wp2_with fail
 refine (bC _ _ _ W).mono ?_
 rw [HO.out]
 rintro e2 w2 ⟨rfl, rfl⟩
 cases o
 rotate_left
 ·
  go_wp2
  go_ret
  exact ⟨ah (by rw [IY HO.out]), hbw⟩
 go_wp2_with fail
 refine (xQ v A c W).mono ?_
 rw [HZ.out]
 rintro e3 w3 ⟨rfl, hb3⟩
 have B0 := B0.below hb3 B0.lt
 have hbw := hbw.trans (hb3.mono hbw.size)
 clear hb3 aQ aS aT aU aY aZ bu bz
 obtain ⟨aQ, aS, aT, aU, aY, aZ, bu, bz⟩ := af.c8 B0
 cases z
 ·
  have HXB := qh (show aG 5 op nm v n = true by unfold aG; rw [if_pos (.inl ⟨by omega, HZ.out⟩)])
  go_wp2
  go_ret
  exact ⟨ah (by rw [iG (by omega) (by omega) (by omega) (fun _ => HO.out) (HXB.out)]), hbw⟩
 by_cases hn1 : n = 1
 rotate_left
 ·
  have HXB := qh (show aG 5 op nm v n = true by unfold aG; rw [if_neg (by simp [HZ.out]), if_pos rfl]; simpa using hn1)
  have b1 : ((n : Int) != 1) = true := by simp; omega
  clear hn1
  go_wp2
  go_ret
  exact ⟨ah (by rw [iG (by omega) (by omega) (by omega) (fun _ => HO.out) (HXB.out)]), hbw⟩
 have HXB := qh (show aG 5 op nm v n = false by unfold aG; rw [if_neg (by simp [HZ.out]), if_pos rfl]; simpa using hn1)
 have b1 : ((n : Int) != 1) = false := by simp; omega
 clear hn1
 obtain ⟨b, hb⟩ := ae (eu nm.data.toList)
 have HB := qh hb
 have HP := qh (vJ (hk := hk) (k := 5) (by omega) (fun _ => HO.out) HXB.out)
 clear hb
 go_wp2_with fail
 refine (uJ nm w3 hnm (bD DK.out hbw)).mono ?_
 rw [HB.out]
 rintro e4 w4 ⟨rfl, hb4⟩
 have B0 := B0.below hb4 B0.lt
 have hbw := hbw.trans (hb4.mono hbw.size)
 clear hb4 aQ aS aT aU aY aZ bu bz
 obtain ⟨aQ, aS, aT, aU, aY, aZ, bu, bz⟩ := af.c8 B0
 cases b
 ·
  go_wp2
  go_ret
  exact ⟨ah (by rw [HP.out, HB.out]; rfl), hbw⟩
 ·
  go_wp2
  go_ret
  exact ⟨ah (by rw [HP.out, HB.out]; rfl), hbw⟩
theorem Gt (k op : Int) (nm : ByteArray) (v : Val) (n : Nat) (hk : Int) (A : Option Addr) (c : Nat) (A' : Option Addr) (c' B : Nat) (w : World) (hnm : nm.size ≤ maxLen) (hvs : v.s.size ≤ maxLen) (hvl : v.l.length ≤ maxLen) (hn : n ≤ maxLen)
  (hx : Reads w B 1 A v.l.length (dS .i64 v.l)) (hB : B ≤ w.heap.size) (hA : 0 < n → ∃ ad, A' = some ad ∧ ad.block < B ∧ w.cell? ad = some (.int .i64 hk)) (hsp : Sp w) (hn4 : n ≤ 1099511627776) :
  Calls Tryz.prog 62 #[.agg #[.int .i64 k, .int .i64 op, .string nm, .int .i64 v.k, .int .i64 v.n, .string v.s, .slice A v.l.length c, .slice A' n c']] w fun e w' => e = .returned (.int .i64 (iM k op nm v n hk)) ∧ Below w.heap.size w w' := by
 by_cases ho : bF k 1 5 = true
 ·
  exact Gs k op nm v n hk A c A' c' w ho
 ·
  have h : k = 1 ∨ k = 2 ∨ k = 3 ∨ k = 4 ∨ k = 5 := by simp [bF] at ho; omega
  rcases h with rfl | rfl | rfl | rfl | rfl
  ·
   exact La op nm v n hk A c A' c' B w hnm hvs hvl hn hx hB hA hsp hn4
  ·
   exact Lc op nm v n hk A c A' c' B w hnm hvs hvl hn hx hB hA hsp hn4
  ·
   exact Ld op nm v n hk A c A' c' B w hnm hvs hvl hn hx hB hA hsp hn4
  ·
   exact Le op nm v n hk A c A' c' B w hnm hvs hvl hn hx hB hA hsp hn4
  ·
   exact Lh op nm v n hk A c A' c' B w hnm hvs hvl hn hx hB hA hsp hn4
theorem Bo {w : World} {B : Nat} {l : List Ex} {A' : Option Addr} {cs : List Value} (hr : Reads w B 8 A' l.length cs) (hi : ∀ i (h : i < l.length), lK w B l[i] ((cs.drop (i * 8)).take 8)) :
  0 < l.length → ∃ ad, A' = some ad ∧ ad.block < B ∧ w.cell? ad = some (.int .i64 (zZ l)) := by
 intro h
 obtain ⟨ad, rfl, hb, hc⟩ := hr.2 h
 refine ⟨ad, rfl, hb, ?_⟩
 have h0 := hi 0 h
 obtain ⟨a, r, rfl⟩ : ∃ a r, l = a :: r := by cases l with
  | nil => simp at h
  | cons a r => exact ⟨a, r, rfl⟩
 have hcell := hc 0
 rw [show ad.add 0 = ad from rfl] at hcell
 refine hcell _ ?_
 generalize he : (cs.drop (0 * 8)).take 8 = ci at h0
 obtain ⟨-, -, -, -, -, -, -⟩ := h0
 have : ((cs.drop (0 * 8)).take 8)[0]? = some (.int .i64 (zZ (a :: r))) := by rw [he]; rfl
 rw [List.getElem?_take, List.getElem?_drop] at this
 simpa using this
theorem Bq (e : Ex) : ∀ (B : Nat) (cs : List Value) (w : World), lK w B e cs → B ≤ w.heap.size →
  Calls Tryz.prog 20 #[.agg cs.toArray] w fun en w' => en = .returned (.int .i64 e.fault) ∧ Below w.heap.size w w' := by
 induction e using Ex.ind with
 | h e ih =>
  rintro B cs w hx hB
  have HXA := qh hx
  obtain ⟨hn, hs, hl, ha, hx, hr, hi⟩ := hx
  rename_i A c A' c' cs
  have HR := qh (And.intro hr hi)
  have HI := qh ih
  have HA := qh ha
  have HP := qh (fun w' hb hB'  => DX e.k e.op e.nm e.v e.ar.length (zZ e.ar) A c A' c' B w' hn hs hl ha (hx.below hb) hB' (Bo (hr.below hb) (fun i h => (hi i h).keep hb)))
  unfold maxLen at ha
  clear hr hi ih hx
  obtain ⟨f, hf⟩ := ae (EG e)
  have HF := qh hf
  have Yp := qh (Iz e)
  clear hf
  show Calls Tryz.prog 20 #[.agg #[.int .i64 e.k, .int .i64 e.op, .string e.nm, .int .i64 e.v.k, .int .i64 e.v.n, .string e.v.s, .slice A e.v.l.length c, .slice A' e.ar.length c']] w _
  go_enter Tryz.func20, Tryz.ntmps20
  go_wp2_with fail
  obtain ⟨W, hW⟩ := au ((w.alloc (.cells #[.int .i64 e.k, .int .i64 e.op, .string e.nm, .int .i64 e.v.k, .int .i64 e.v.n, .string e.v.s, .slice A e.v.l.length c, .slice A' e.ar.length c'] 27 (0, 0))))
  have hbw : Below w.heap.size w W := by rw [hW]; exact ((Below.refl _ w).alloc (Nat.le_refl _) _)
  have B0 : af W (w.heap.size) 27 #[.int .i64 e.k, .int .i64 e.op, .string e.nm, .int .i64 e.v.k, .int .i64 e.v.n, .string e.v.s, .slice A e.v.l.length c, .slice A' e.ar.length c'] := by
   rw [hW]
   have := af.new w 27 #[.int .i64 e.k, .int .i64 e.op, .string e.nm, .int .i64 e.v.k, .int .i64 e.v.n, .string e.v.s, .slice A e.v.l.length c, .slice A' e.ar.length c']
   exact this
  have hsz : W.heap.size = w.heap.size + 1 := by rw [hW]; simp
  rw [← hW]
  clear hW hsz
  refine (HP.out W (hbw.mono hB) (Nat.le_trans hB hbw.size)).mono ?_
  rw [show iM e.k e.op e.nm e.v e.ar.length (zZ e.ar) = f from HF.out]
  rintro en w1 ⟨rfl, hb1⟩
  have B0 := B0.below hb1 B0.lt
  have hbw := hbw.trans (hb1.mono hbw.size)
  clear hb1 HP
  obtain ⟨aQ, aS, aT, aU, aY, aZ, bu, bz⟩ := af.c8 B0
  by_cases h0 : f = 0
  rotate_left
  ·
   have bf : (f != 0) = true := by simpa using h0
   have HG := qh (Yp.out.trans (by rw [HF.out, if_pos h0]))
   clear h0
   go_wp2
   go_ret
   exact ⟨ah (by rw [HG.out]), hbw⟩
  subst h0
  have HG := qh (show e.fault = jF e.ar from Yp.out.trans (by rw [HF.out, if_neg (by omega)]))
  clear Yp
  go_wp2
  go_loopw [15] (fun i wr => ∃ k : Nat, k ≤ e.ar.length ∧ i = .int .i64 k ∧ Hid (jF e.ar = jF (e.ar.drop k)) ∧ Below w.heap.size w wr) (fun i _ => e.ar.length - (intOf i).toNat)
  case atStart => exact ⟨0, Nat.zero_le _, rfl, qh rfl, hbw⟩
  case round =>
   obtain ⟨k, hk, rfl, HD, hbr⟩ := hrel
   have tV := hbr.size
   have Bj := hbr.mono hB
   by_cases hlt : k < e.ar.length
   ·
    obtain ⟨ad, ci, rfl, hb, hci, hcell⟩ := lK.arg (HR.out.1.below Bj) (fun i h => (HR.out.2 i h).keep Bj) hlt
    obtain ⟨a, hea⟩ := ae (e.ar[k])
    have ham : a ∈ e.ar := by rw [← hea]; exact List.getElem_mem hlt
    obtain ⟨g, hg⟩ := ae (a.fault)
    have HGF := qh hg
    have HDD := qh (show jF (e.ar.drop k) = if g ≠ 0 then g else jF (e.ar.drop (k + 1)) by
     rw [List.drop_eq_getElem_cons hlt, hea, jF, hg])
    have fO := qh hlt
    have HI1 := qh (fun w' h1 h2 => HI.out a ham B ci w' h1 h2)
    rw [hea] at hci
    have VR := qh hci
    obtain ⟨hn1, hs1, hl1, ha1, hx1, hr1, hi1⟩ := hci
    rename_i A1 c1 KW c1' cs1
    have Ib : wr.cell? (ad.add (k * 8)) = some (.int .i64 a.k) := hcell 0 _ rfl
    have KA : wr.cell? ⟨(ad.add (k * 8)).block, (ad.add (k * 8)).off + 1, none⟩ = some (.int .i64 a.op) := hcell 1 _ rfl
    have QW : wr.cell? ⟨(ad.add (k * 8)).block, (ad.add (k * 8)).off + 2, none⟩ = some (.string a.nm) := hcell 2 _ rfl
    have QX : wr.cell? ⟨(ad.add (k * 8)).block, (ad.add (k * 8)).off + 3, none⟩ = some (.int .i64 a.v.k) := hcell 3 _ rfl
    have QY : wr.cell? ⟨(ad.add (k * 8)).block, (ad.add (k * 8)).off + 4, none⟩ = some (.int .i64 a.v.n) := hcell 4 _ rfl
    have QZ : wr.cell? ⟨(ad.add (k * 8)).block, (ad.add (k * 8)).off + 5, none⟩ = some (.string a.v.s) := hcell 5 _ rfl
    have Q3 : wr.cell? ⟨(ad.add (k * 8)).block, (ad.add (k * 8)).off + 6, none⟩ = some (.slice A1 a.v.l.length c1) := hcell 6 _ rfl
    have Q4 : wr.cell? ⟨(ad.add (k * 8)).block, (ad.add (k * 8)).off + 7, none⟩ = some (.slice KW a.ar.length c1') := hcell 7 _ rfl
    clear hx1 hr1 hi1 hcell hea ham hg
    go_wp2_with fail
    obtain ⟨W, hW⟩ := au (wr.alloc (.cells #[.int .i64 a.k, .int .i64 a.op, .string a.nm, .int .i64 a.v.k, .int .i64 a.v.n, .string a.v.s, .slice A1 a.v.l.length c1, .slice KW a.ar.length c1'] 27 (0, 0)))
    have hbW : Below wr.heap.size wr W := hW ▸ (Below.refl _ wr).alloc (Nat.le_refl _) _
    rw [← hW]
    have hb2 := hbr.trans (hbW.mono tV)
    have hbB := hbW.mono (Nat.le_trans hB tV)
    clear hW Ib KA QW QX QY QZ Q3 Q4
    refine (HI1.out W (VR.out.keep hbB) (Nat.le_trans hB hb2.size)).mono ?_
    rw [HGF.out]
    rintro en w3 ⟨rfl, hb3⟩
    have hbw := hb2.trans (hb3.mono hb2.size)
    clear hb3 hbW hbB hb2 HI1
    by_cases hg0 : g = 0
    rotate_left
    ·
     have bg : (g != 0) = true := by simpa using hg0
     have Yq := qh (show e.fault = g by rw [HG.out, HD.out, HDD.out, if_pos hg0])
     clear hg0
     go_wp2
     go_ret
     exact ⟨ah (by rw [Yq.out]), hbw⟩
    subst hg0
    have HD2 := qh (show jF e.ar = jF (e.ar.drop (k + 1)) by rw [HD.out, HDD.out, if_neg (by omega)])
    go_wp2
    go_roundw
    case rel => exact ⟨k + 1, fO.out, by go_num, HD2, hbw⟩
    case measure =>
     have := fO.out
     simp [intOf]
     omega
   ·
    have Yq := qh (show e.fault = 0 by rw [HG.out, HD.out, List.drop_eq_nil_of_le (by omega)]; rfl)
    go_wp2
    go_ret
    exact ⟨ah (by rw [Yq.out]), hbr⟩
theorem Lj (e : Ex) : ∀ (B : Nat) (cs : List Value) (w : World), lK w B e cs → B ≤ w.heap.size → e.parts ≤ 1000000 → Sp w →
  Calls Tryz.prog 40 #[.agg cs.toArray] w fun en w' => en = .returned (.int .i64 e.fault) ∧ Below w.heap.size w w' := by
 induction e using Ex.ind with
 | h e ih =>
  rintro B cs w hx hB hpz hsp
  have HXA := qh hx
  obtain ⟨hn, hs, hl, ha, hx, hr, hi⟩ := hx
  rename_i A c A' c' cs
  have HR := qh (And.intro hr hi)
  have HI := qh ih
  have HA := qh ha
  have HP := qh (fun w' hb hB' h1 h2 => Gt e.k e.op e.nm e.v e.ar.length (zZ e.ar) A c A' c' B w' hn hs hl ha (hx.below hb) hB' (Bo (hr.below hb) (fun i h => (hi i h).keep hb)) h1 h2)
  have DK := qh hsp
  have SZ := qh (fun a (h : a ∈ e.ar) => (show a.parts ≤ 1000000 by have := wL h; have := parts_eq e; omega))
  unfold maxLen at ha
  clear hr hi ih hx hsp
  obtain ⟨f, hf⟩ := ae (EG e)
  have HF := qh hf
  have Yp := qh (Iz e)
  clear hf
  show Calls Tryz.prog 40 #[.agg #[.int .i64 e.k, .int .i64 e.op, .string e.nm, .int .i64 e.v.k, .int .i64 e.v.n, .string e.v.s, .slice A e.v.l.length c, .slice A' e.ar.length c']] w _
  go_enter Tryz.func40, Tryz.ntmps40
  go_wp2_with fail
  obtain ⟨W, hW⟩ := au ((w.alloc (.cells #[.int .i64 e.k, .int .i64 e.op, .string e.nm, .int .i64 e.v.k, .int .i64 e.v.n, .string e.v.s, .slice A e.v.l.length c, .slice A' e.ar.length c'] 27 (0, 0))))
  have hbw : Below w.heap.size w W := by rw [hW]; exact ((Below.refl _ w).alloc (Nat.le_refl _) _)
  have B0 : af W (w.heap.size) 27 #[.int .i64 e.k, .int .i64 e.op, .string e.nm, .int .i64 e.v.k, .int .i64 e.v.n, .string e.v.s, .slice A e.v.l.length c, .slice A' e.ar.length c'] := by
   rw [hW]
   have := af.new w 27 #[.int .i64 e.k, .int .i64 e.op, .string e.nm, .int .i64 e.v.k, .int .i64 e.v.n, .string e.v.s, .slice A e.v.l.length c, .slice A' e.ar.length c']
   exact this
  have hsz : W.heap.size = w.heap.size + 1 := by rw [hW]; simp
  rw [← hW]
  clear hW hsz
  refine (HP.out W (hbw.mono hB) (Nat.le_trans hB hbw.size) (bD DK.out hbw) (by have := EF e.ar; have := parts_eq e; omega)).mono ?_
  rw [show iM e.k e.op e.nm e.v e.ar.length (zZ e.ar) = f from HF.out]
  rintro en w1 ⟨rfl, hb1⟩
  have B0 := B0.below hb1 B0.lt
  have hbw := hbw.trans (hb1.mono hbw.size)
  clear hb1 HP
  obtain ⟨aQ, aS, aT, aU, aY, aZ, bu, bz⟩ := af.c8 B0
  by_cases h0 : f = 0
  rotate_left
  ·
   have bf : (f != 0) = true := by simpa using h0
   have HG := qh (Yp.out.trans (by rw [HF.out, if_pos h0]))
   clear h0
   go_wp2
   go_ret
   exact ⟨ah (by rw [HG.out]), hbw⟩
  subst h0
  have HG := qh (show e.fault = jF e.ar from Yp.out.trans (by rw [HF.out, if_neg (by omega)]))
  clear Yp
  go_wp2
  go_loopw [15] (fun i wr => ∃ k : Nat, k ≤ e.ar.length ∧ i = .int .i64 k ∧ Hid (jF e.ar = jF (e.ar.drop k)) ∧ Below w.heap.size w wr) (fun i _ => e.ar.length - (intOf i).toNat)
  case atStart => exact ⟨0, Nat.zero_le _, rfl, qh rfl, hbw⟩
  case round =>
   obtain ⟨k, hk, rfl, HD, hbr⟩ := hrel
   have tV := hbr.size
   have Bj := hbr.mono hB
   by_cases hlt : k < e.ar.length
   ·
    obtain ⟨ad, ci, rfl, hb, hci, hcell⟩ := lK.arg (HR.out.1.below Bj) (fun i h => (HR.out.2 i h).keep Bj) hlt
    obtain ⟨a, hea⟩ := ae (e.ar[k])
    have ham : a ∈ e.ar := by rw [← hea]; exact List.getElem_mem hlt
    obtain ⟨g, hg⟩ := ae (a.fault)
    have HGF := qh hg
    have HDD := qh (show jF (e.ar.drop k) = if g ≠ 0 then g else jF (e.ar.drop (k + 1)) by
     rw [List.drop_eq_getElem_cons hlt, hea, jF, hg])
    have fO := qh hlt
    have HI1 := qh (fun w' h1 h2 => HI.out a ham B ci w' h1 h2 (SZ.out a ham))
    rw [hea] at hci
    have VR := qh hci
    obtain ⟨hn1, hs1, hl1, ha1, hx1, hr1, hi1⟩ := hci
    rename_i A1 c1 KW c1' cs1
    have Ib : wr.cell? (ad.add (k * 8)) = some (.int .i64 a.k) := hcell 0 _ rfl
    have KA : wr.cell? ⟨(ad.add (k * 8)).block, (ad.add (k * 8)).off + 1, none⟩ = some (.int .i64 a.op) := hcell 1 _ rfl
    have QW : wr.cell? ⟨(ad.add (k * 8)).block, (ad.add (k * 8)).off + 2, none⟩ = some (.string a.nm) := hcell 2 _ rfl
    have QX : wr.cell? ⟨(ad.add (k * 8)).block, (ad.add (k * 8)).off + 3, none⟩ = some (.int .i64 a.v.k) := hcell 3 _ rfl
    have QY : wr.cell? ⟨(ad.add (k * 8)).block, (ad.add (k * 8)).off + 4, none⟩ = some (.int .i64 a.v.n) := hcell 4 _ rfl
    have QZ : wr.cell? ⟨(ad.add (k * 8)).block, (ad.add (k * 8)).off + 5, none⟩ = some (.string a.v.s) := hcell 5 _ rfl
    have Q3 : wr.cell? ⟨(ad.add (k * 8)).block, (ad.add (k * 8)).off + 6, none⟩ = some (.slice A1 a.v.l.length c1) := hcell 6 _ rfl
    have Q4 : wr.cell? ⟨(ad.add (k * 8)).block, (ad.add (k * 8)).off + 7, none⟩ = some (.slice KW a.ar.length c1') := hcell 7 _ rfl
    clear hx1 hr1 hi1 hcell hea ham hg
    go_wp2_with fail
    obtain ⟨W, hW⟩ := au (wr.alloc (.cells #[.int .i64 a.k, .int .i64 a.op, .string a.nm, .int .i64 a.v.k, .int .i64 a.v.n, .string a.v.s, .slice A1 a.v.l.length c1, .slice KW a.ar.length c1'] 27 (0, 0)))
    have hbW : Below wr.heap.size wr W := hW ▸ (Below.refl _ wr).alloc (Nat.le_refl _) _
    rw [← hW]
    have hb2 := hbr.trans (hbW.mono tV)
    have hbB := hbW.mono (Nat.le_trans hB tV)
    clear hW Ib KA QW QX QY QZ Q3 Q4
    refine (HI1.out W (VR.out.keep hbB) (Nat.le_trans hB hb2.size) (bD DK.out hb2)).mono ?_
    rw [HGF.out]
    rintro en w3 ⟨rfl, hb3⟩
    have hbw := hb2.trans (hb3.mono hb2.size)
    clear hb3 hbW hbB hb2 HI1
    by_cases hg0 : g = 0
    rotate_left
    ·
     have bg : (g != 0) = true := by simpa using hg0
     have Yq := qh (show e.fault = g by rw [HG.out, HD.out, HDD.out, if_pos hg0])
     clear hg0
     go_wp2
     go_ret
     exact ⟨ah (by rw [Yq.out]), hbw⟩
    subst hg0
    have HD2 := qh (show jF e.ar = jF (e.ar.drop (k + 1)) by rw [HD.out, HDD.out, if_neg (by omega)])
    go_wp2
    go_roundw
    case rel => exact ⟨k + 1, fO.out, by go_num, HD2, hbw⟩
    case measure =>
     have := fO.out
     simp [intOf]
     omega
   ·
    have Yq := qh (show e.fault = 0 by rw [HG.out, HD.out, List.drop_eq_nil_of_le (by omega)]; rfl)
    go_wp2
    go_ret
    exact ⟨ah (by rw [Yq.out]), hbr⟩
end Go.Proofs.YtobanldeicclmaaGreatDoor
