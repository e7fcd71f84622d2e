/- Lemmas for the claim: walks and plain laws. -/
import Derived.Test.YtobanldeicclmaaGreatDoorZ9
set_option maxHeartbeats 4000000
set_option maxRecDepth 100000
namespace Go.Proofs.YtobanldeicclmaaGreatDoor
open Go.RowKit
theorem oH {k : Int} (h1 : 1 ≤ k) (h2 : k ≤ 5) : bF k 1 5 = false := nC h1 h2
theorem Fh {k op : Int} {nm : ByteArray} {v : Val} {n : Nat} {hk : Int} (h : bF k 1 5 = true) : iM k op nm v n hk = 4 := by unfold iM; rw [if_pos h]
theorem IX {op : Int} {nm : ByteArray} {v : Val} {n : Nat} {hk : Int} (h : bF op 1 39 = true) : iM 4 op nm v n hk = 4 := by unfold iM; rw [if_neg (by decide), if_pos ⟨rfl, h⟩]
theorem IY {op : Int} {nm : ByteArray} {v : Val} {n : Nat} {hk : Int} (h : bF op 1 6 = true) : iM 5 op nm v n hk = 4 := by unfold iM; rw [if_neg (by decide), if_neg (by omega), if_pos ⟨rfl, h⟩]
theorem iG {k op : Int} {nm : ByteArray} {v : Val} {n : Nat} {hk : Int} (h1 : 1 ≤ k) (h2 : k ≤ 5) (h4 : k = 4 → bF op 1 39 = false) (h5 : k = 5 → bF op 1 6 = false) (h : aG k op nm v n = true) : iM k op nm v n hk = 3 := by
 unfold iM
 rw [if_neg (by rw [oH h1 h2]; simp), if_neg (fun e => by rw [h4 e.1] at e; simp at e), if_neg (fun e => by rw [h5 e.1] at e; simp at e), if_pos h]
theorem NP {op : Int} {nm : ByteArray} {v : Val} {n : Nat} {hk : Int} (h : aG 1 op nm v n = false) : iM 1 op nm v n hk = if v.k = 0 ∨ v.k = 1 then 4 else aV v := by
 unfold iM
 rw [if_neg (by decide), if_neg (by omega), if_neg (by omega), if_neg (by rw [h]; simp), if_pos rfl]
theorem NQ {op : Int} {nm : ByteArray} {v : Val} {n : Nat} {hk : Int} (h4 : bF op 1 39 = false) (h : aG 4 op nm v n = false) : iM 4 op nm v n hk = if 12 ≤ op ∧ op ≤ 14 ∧ hk ≠ 2 then 3 else 0 := by
 unfold iM
 rw [if_neg (by decide), if_neg (by rw [h4]; simp), if_neg (by omega), if_neg (by rw [h]; simp), if_neg (by omega), if_pos rfl]
theorem vJ {k op : Int} {nm : ByteArray} {v : Val} {n : Nat} {hk : Int} (hk2 : k = 2 ∨ k = 3 ∨ k = 5) (h5 : k = 5 → bF op 1 6 = false) (h : aG k op nm v n = false) : iM k op nm v n hk = if eu nm.data.toList = true then 0 else 5 := by
 unfold iM
 rw [if_neg (by rw [oH (by omega) (by omega)]; simp), if_neg (by omega), if_neg (fun e => by rw [h5 e.1] at e; simp at e), if_neg (by rw [h]; simp), if_neg (by omega), if_neg (by omega)]
theorem xR {op : Int} (h : op = 12 ∨ op = 13 ∨ op = 14) : iU op = (1, 1) := by rcases h with rfl | rfl | rfl <;> rfl
theorem DW (k op : Int) (nm : ByteArray) (v : Val) (n : Nat) (hk : Int) (A : Option Addr) (c : Nat) (A' : Option Addr) (c' : Nat) (w : World) (ho : bF k 1 5 = true) :
  Calls Tryz.prog 41 #[.agg #[.int .i64 k, .int .i64 op, .string nm, .int .i64 v.k, .int .i64 v.n, .string v.s, .slice A v.l.length c, .slice A' n c']] w fun e w' => e = .returned (.int .i64 (iM k op nm v n hk)) ∧ Below w.heap.size w w' := by
 have HO := qh ho
 clear ho
 go_enter Tryz.func41, Tryz.ntmps41
 go_wp2_with fail
 obtain ⟨W, hW⟩ := au ((w.alloc (.cells #[.int .i64 k, .int .i64 op, .string nm, .int .i64 v.k, .int .i64 v.n, .string v.s, .slice A v.l.length c, .slice A' n c'] 27 (0, 0))))
 have hbw : Below w.heap.size w W := by rw [hW]; exact ((Below.refl _ w).alloc (Nat.le_refl _) _)
 have B0 : af W (w.heap.size) 27 #[.int .i64 k, .int .i64 op, .string nm, .int .i64 v.k, .int .i64 v.n, .string v.s, .slice A v.l.length c, .slice A' n c'] := by
  rw [hW]
  have := af.new w 27 #[.int .i64 k, .int .i64 op, .string nm, .int .i64 v.k, .int .i64 v.n, .string v.s, .slice A v.l.length c, .slice A' n c']
  exact this
 have hsz : W.heap.size = w.heap.size + 1 := by rw [hW]; simp
 rw [← hW]
 clear hW hsz
 obtain ⟨aQ, aS, aT, aU, aY, aZ, bu, bz⟩ := af.c8 B0
 refine (aW _ _ _ W).mono ?_
 rw [HO.out]
 rintro e1 w1 ⟨rfl, rfl⟩
 go_wp2
 go_ret
 exact ⟨ah (by rw [Fh HO.out]), hbw⟩
theorem IZ (op : Int) (nm : ByteArray) (v : Val) (n : Nat) (hk : Int) (A : Option Addr) (c : Nat) (A' : Option Addr) (c' B : Nat) (w : World) (hnm : nm.size ≤ maxLen) (hvs : v.s.size ≤ maxLen) (hvl : v.l.length ≤ maxLen) (hn : n ≤ maxLen)
  (hx : Reads w B 1 A v.l.length (dS .i64 v.l)) (hB : B ≤ w.heap.size) (hA : 0 < n → ∃ ad, A' = some ad ∧ ad.block < B ∧ w.cell? ad = some (.int .i64 hk)) :
  Calls Tryz.prog 41 #[.agg #[.int .i64 1, .int .i64 op, .string nm, .int .i64 v.k, .int .i64 v.n, .string v.s, .slice A v.l.length c, .slice A' n c']] w fun e w' => e = .returned (.int .i64 (iM 1 op nm v n hk)) ∧ Below w.heap.size w w' := by
 have HX := qh (And.intro hx hB)
 have HA := qh hA
 have zM := qh hn
 unfold maxLen at hn
 clear hx hB hA
 obtain ⟨x, hx0⟩ := ae (aG 1 op nm v n)
 have HXB := qh hx0
 have HEX := qh (fun w' => qZ 1 op nm v n A c A' c' w' zM.out (by omega) (by omega))
 clear hx0
 go_enter Tryz.func41, Tryz.ntmps41
 go_wp2_with fail
 obtain ⟨W, hW⟩ := au ((w.alloc (.cells #[.int .i64 1, .int .i64 op, .string nm, .int .i64 v.k, .int .i64 v.n, .string v.s, .slice A v.l.length c, .slice A' n c'] 27 (0, 0))))
 have hbw : Below w.heap.size w W := by rw [hW]; exact ((Below.refl _ w).alloc (Nat.le_refl _) _)
 have B0 : af W (w.heap.size) 27 #[.int .i64 1, .int .i64 op, .string nm, .int .i64 v.k, .int .i64 v.n, .string v.s, .slice A v.l.length c, .slice A' n c'] := by
  rw [hW]
  have := af.new w 27 #[.int .i64 1, .int .i64 op, .string nm, .int .i64 v.k, .int .i64 v.n, .string v.s, .slice A v.l.length c, .slice A' n c']
  exact this
 have hsz : W.heap.size = w.heap.size + 1 := by rw [hW]; simp
 rw [← hW]
 clear hW hsz
 obtain ⟨aQ, aS, aT, aU, aY, aZ, bu, bz⟩ := af.c8 B0
 refine (aW _ _ _ W).mono ?_
 rw [oH (by omega) (by omega)]
 rintro e1 w1 ⟨rfl, rfl⟩
 go_wp2_with fail
 refine (HEX.out W).mono ?_
 rw [HXB.out]
 rintro e2 w2 ⟨rfl, hb2⟩
 have B0 := B0.below hb2 B0.lt
 have hbw := hbw.trans (hb2.mono hbw.size)
 clear hb2 aQ aS aT aU aY aZ bu bz
 obtain ⟨aQ, aS, aT, aU, aY, aZ, bu, bz⟩ := af.c8 B0
 cases x
 rotate_left
 ·
  go_wp2
  go_ret
  exact ⟨ah (by rw [iG (by omega) (by omega) (by omega) (by omega) HXB.out]), hbw⟩
 have HP := qh (NP (hk := hk) HXB.out)
 by_cases hv0 : v.k = 0
 ·
  have HG := qh (HP.out.trans (if_pos (by omega)))
  have bv : (v.k == 0) = true := by rw [beq_iff_eq]; exact hv0
  clear hv0
  go_wp2
  go_ret
  exact ⟨ah (by rw [HG.out]), hbw⟩
 have bv0 : (v.k == 0) = false := by rw [beq_eq_false_iff_ne]; exact hv0
 by_cases hv1 : v.k = 1
 ·
  have HG := qh (HP.out.trans (if_pos (by omega)))
  have bv : (v.k == 1) = true := by rw [beq_iff_eq]; exact hv1
  clear hv1 hv0
  go_wp2
  go_ret
  exact ⟨ah (by rw [HG.out]), hbw⟩
 have bv1 : (v.k == 1) = false := by rw [beq_eq_false_iff_ne]; exact hv1
 have HG := qh (HP.out.trans (if_neg (by omega)))
 clear hv0 hv1
 go_wp2_with fail
 refine (check_any v A c _ w2 hvl hvs ((HX.out.1.more HX.out.2).below hbw) hbw.size).mono ?_
 rintro e w5 ⟨rfl, hb5⟩
 have hbw := hbw.trans (hb5.mono hbw.size)
 go_wp2
 go_ret
 exact ⟨ah (by rw [HG.out]), hbw⟩
theorem I4 (op : Int) (nm : ByteArray) (v : Val) (n : Nat) (hk : Int) (A : Option Addr) (c : Nat) (A' : Option Addr) (c' B : Nat) (w : World) (hnm : nm.size ≤ maxLen) (hvs : v.s.size ≤ maxLen) (hvl : v.l.length ≤ maxLen) (hn : n ≤ maxLen)
  (hx : Reads w B 1 A v.l.length (dS .i64 v.l)) (hB : B ≤ w.heap.size) (hA : 0 < n → ∃ ad, A' = some ad ∧ ad.block < B ∧ w.cell? ad = some (.int .i64 hk)) :
  Calls Tryz.prog 41 #[.agg #[.int .i64 2, .int .i64 op, .string nm, .int .i64 v.k, .int .i64 v.n, .string v.s, .slice A v.l.length c, .slice A' n c']] w fun e w' => e = .returned (.int .i64 (iM 2 op nm v n hk)) ∧ Below w.heap.size w w' := by
 have HX := qh (And.intro hx hB)
 have HA := qh hA
 have zM := qh hn
 unfold maxLen at hn
 clear hx hB hA
 obtain ⟨x, hx0⟩ := ae (aG 2 op nm v n)
 have HXB := qh hx0
 have HEX := qh (fun w' => qZ 2 op nm v n A c A' c' w' zM.out (by omega) (by omega))
 clear hx0
 go_enter Tryz.func41, Tryz.ntmps41
 go_wp2_with fail
 obtain ⟨W, hW⟩ := au ((w.alloc (.cells #[.int .i64 2, .int .i64 op, .string nm, .int .i64 v.k, .int .i64 v.n, .string v.s, .slice A v.l.length c, .slice A' n c'] 27 (0, 0))))
 have hbw : Below w.heap.size w W := by rw [hW]; exact ((Below.refl _ w).alloc (Nat.le_refl _) _)
 have B0 : af W (w.heap.size) 27 #[.int .i64 2, .int .i64 op, .string nm, .int .i64 v.k, .int .i64 v.n, .string v.s, .slice A v.l.length c, .slice A' n c'] := by
  rw [hW]
  have := af.new w 27 #[.int .i64 2, .int .i64 op, .string nm, .int .i64 v.k, .int .i64 v.n, .string v.s, .slice A v.l.length c, .slice A' n c']
  exact this
 have hsz : W.heap.size = w.heap.size + 1 := by rw [hW]; simp
 rw [← hW]
 clear hW hsz
 obtain ⟨aQ, aS, aT, aU, aY, aZ, bu, bz⟩ := af.c8 B0
 refine (aW _ _ _ W).mono ?_
 rw [oH (by omega) (by omega)]
 rintro e1 w1 ⟨rfl, rfl⟩
 go_wp2_with fail
 refine (HEX.out W).mono ?_
 rw [HXB.out]
 rintro e2 w2 ⟨rfl, hb2⟩
 have B0 := B0.below hb2 B0.lt
 have hbw := hbw.trans (hb2.mono hbw.size)
 clear hb2 aQ aS aT aU aY aZ bu bz
 obtain ⟨aQ, aS, aT, aU, aY, aZ, bu, bz⟩ := af.c8 B0
 cases x
 rotate_left
 ·
  go_wp2
  go_ret
  exact ⟨ah (by rw [iG (by omega) (by omega) (by omega) (by omega) HXB.out]), hbw⟩
 obtain ⟨b, hb⟩ := ae (eu nm.data.toList)
 have HB := qh hb
 have HP := qh (vJ (hk := hk) (k := 2) (by omega) (by omega) HXB.out)
 clear hb
 go_wp2_with fail
 refine (wZ nm w2 hnm).mono ?_
 rw [HB.out]
 rintro e3 w3 ⟨rfl, rfl⟩
 cases b
 ·
  go_wp2
  go_ret
  exact ⟨ah (by rw [HP.out, HB.out]; rfl), hbw⟩
 ·
  go_wp2
  go_ret
  exact ⟨ah (by rw [HP.out, HB.out]; rfl), hbw⟩
theorem I5 (op : Int) (nm : ByteArray) (v : Val) (n : Nat) (hk : Int) (A : Option Addr) (c : Nat) (A' : Option Addr) (c' B : Nat) (w : World) (hnm : nm.size ≤ maxLen) (hvs : v.s.size ≤ maxLen) (hvl : v.l.length ≤ maxLen) (hn : n ≤ maxLen)
  (hx : Reads w B 1 A v.l.length (dS .i64 v.l)) (hB : B ≤ w.heap.size) (hA : 0 < n → ∃ ad, A' = some ad ∧ ad.block < B ∧ w.cell? ad = some (.int .i64 hk)) :
  Calls Tryz.prog 41 #[.agg #[.int .i64 3, .int .i64 op, .string nm, .int .i64 v.k, .int .i64 v.n, .string v.s, .slice A v.l.length c, .slice A' n c']] w fun e w' => e = .returned (.int .i64 (iM 3 op nm v n hk)) ∧ Below w.heap.size w w' := by
 have HX := qh (And.intro hx hB)
 have HA := qh hA
 have zM := qh hn
 unfold maxLen at hn
 clear hx hB hA
 obtain ⟨x, hx0⟩ := ae (aG 3 op nm v n)
 have HXB := qh hx0
 have HEX := qh (fun w' => qZ 3 op nm v n A c A' c' w' zM.out (by omega) (by omega))
 clear hx0
 go_enter Tryz.func41, Tryz.ntmps41
 go_wp2_with fail
 obtain ⟨W, hW⟩ := au ((w.alloc (.cells #[.int .i64 3, .int .i64 op, .string nm, .int .i64 v.k, .int .i64 v.n, .string v.s, .slice A v.l.length c, .slice A' n c'] 27 (0, 0))))
 have hbw : Below w.heap.size w W := by rw [hW]; exact ((Below.refl _ w).alloc (Nat.le_refl _) _)
 have B0 : af W (w.heap.size) 27 #[.int .i64 3, .int .i64 op, .string nm, .int .i64 v.k, .int .i64 v.n, .string v.s, .slice A v.l.length c, .slice A' n c'] := by
  rw [hW]
  have := af.new w 27 #[.int .i64 3, .int .i64 op, .string nm, .int .i64 v.k, .int .i64 v.n, .string v.s, .slice A v.l.length c, .slice A' n c']
  exact this
 have hsz : W.heap.size = w.heap.size + 1 := by rw [hW]; simp
 rw [← hW]
 clear hW hsz
 obtain ⟨aQ, aS, aT, aU, aY, aZ, bu, bz⟩ := af.c8 B0
 refine (aW _ _ _ W).mono ?_
 rw [oH (by omega) (by omega)]
 rintro e1 w1 ⟨rfl, rfl⟩
 go_wp2_with fail
 refine (HEX.out W).mono ?_
 rw [HXB.out]
 rintro e2 w2 ⟨rfl, hb2⟩
 have B0 := B0.below hb2 B0.lt
 have hbw := hbw.trans (hb2.mono hbw.size)
 clear hb2 aQ aS aT aU aY aZ bu bz
 obtain ⟨aQ, aS, aT, aU, aY, aZ, bu, bz⟩ := af.c8 B0
 cases x
 rotate_left
 ·
  go_wp2
  go_ret
  exact ⟨ah (by rw [iG (by omega) (by omega) (by omega) (by omega) HXB.out]), hbw⟩
 obtain ⟨b, hb⟩ := ae (eu nm.data.toList)
 have HB := qh hb
 have HP := qh (vJ (hk := hk) (k := 3) (by omega) (by omega) HXB.out)
 clear hb
 go_wp2_with fail
 refine (wZ nm w2 hnm).mono ?_
 rw [HB.out]
 rintro e3 w3 ⟨rfl, rfl⟩
 cases b
 ·
  go_wp2
  go_ret
  exact ⟨ah (by rw [HP.out, HB.out]; rfl), hbw⟩
 ·
  go_wp2
  go_ret
  exact ⟨ah (by rw [HP.out, HB.out]; rfl), hbw⟩
theorem I7 (op : Int) (nm : ByteArray) (v : Val) (n : Nat) (hk : Int) (A : Option Addr) (c : Nat) (A' : Option Addr) (c' B : Nat) (w : World) (hnm : nm.size ≤ maxLen) (hvs : v.s.size ≤ maxLen) (hvl : v.l.length ≤ maxLen) (hn : n ≤ maxLen)
  (hx : Reads w B 1 A v.l.length (dS .i64 v.l)) (hB : B ≤ w.heap.size) (hA : 0 < n → ∃ ad, A' = some ad ∧ ad.block < B ∧ w.cell? ad = some (.int .i64 hk)) :
  Calls Tryz.prog 41 #[.agg #[.int .i64 4, .int .i64 op, .string nm, .int .i64 v.k, .int .i64 v.n, .string v.s, .slice A v.l.length c, .slice A' n c']] w fun e w' => e = .returned (.int .i64 (iM 4 op nm v n hk)) ∧ Below w.heap.size w w' := by
 have HX := qh (And.intro hx hB)
 have HA := qh hA
 have zM := qh hn
 unfold maxLen at hn
 clear hx hB hA
 obtain ⟨x, hx0⟩ := ae (aG 4 op nm v n)
 have HXB := qh hx0
 have HEX := qh (fun w' => qZ 4 op nm v n A c A' c' w' zM.out (by omega) (by omega))
 clear hx0
 obtain ⟨o, ho⟩ := ae (bF op 1 39)
 have HO := qh ho
 clear ho
 go_enter Tryz.func41, Tryz.ntmps41
 go_wp2_with fail
 obtain ⟨W, hW⟩ := au ((w.alloc (.cells #[.int .i64 4, .int .i64 op, .string nm, .int .i64 v.k, .int .i64 v.n, .string v.s, .slice A v.l.length c, .slice A' n c'] 27 (0, 0))))
 have hbw : Below w.heap.size w W := by rw [hW]; exact ((Below.refl _ w).alloc (Nat.le_refl _) _)
 have B0 : af W (w.heap.size) 27 #[.int .i64 4, .int .i64 op, .string nm, .int .i64 v.k, .int .i64 v.n, .string v.s, .slice A v.l.length c, .slice A' n c'] := by
  rw [hW]
  have := af.new w 27 #[.int .i64 4, .int .i64 op, .string nm, .int .i64 v.k, .int .i64 v.n, .string v.s, .slice A v.l.length c, .slice A' n c']
  exact this
 have hsz : W.heap.size = w.heap.size + 1 := by rw [hW]; simp
 rw [← hW]
 clear hW hsz
 obtain ⟨aQ, aS, aT, aU, aY, aZ, bu, bz⟩ := af.c8 B0
 refine (aW _ _ _ W).mono ?_
 rw [oH (by omega) (by omega)]
 rintro e1 w1 ⟨rfl, rfl⟩
 go_wp2_with fail
 refine (aW _ _ _ W).mono ?_
 rw [HO.out]
 rintro e2 w2 ⟨rfl, rfl⟩
 cases o
 rotate_left
 ·
  go_wp2
  go_ret
  exact ⟨ah (by rw [IX HO.out]), hbw⟩
 go_wp2_with fail
 refine (HEX.out W).mono ?_
 rw [HXB.out]
 rintro e3 w3 ⟨rfl, hb3⟩
 have B0 := B0.below hb3 B0.lt
 have hbw := hbw.trans (hb3.mono hbw.size)
 clear hb3 aQ aS aT aU aY aZ bu bz
 obtain ⟨aQ, aS, aT, aU, aY, aZ, bu, bz⟩ := af.c8 B0
 cases x
 rotate_left
 ·
  go_wp2
  go_ret
  exact ⟨ah (by rw [iG (by omega) (by omega) (fun _ => HO.out) (by omega) HXB.out]), hbw⟩
 have HP := qh (NQ (hk := hk) HO.out HXB.out)
 by_cases Ti : op = 12
 ·
  have hn1 : n = 1 := by
   have h := HXB.out
   have e := xR (op := op) (by omega)
   unfold aG at h
   rw [e] at h
   split at h
   ·
    cases h
   ·
    simp at h; omega
  obtain ⟨ad, rfl, had, hcell⟩ := HA.out (by omega)
  have hck : w3.cell? ad = some (.int .i64 hk) := by rw [hbw.cell (by have := HX.out.2; omega)]; exact hcell
  have hn0 : 0 < n := by omega
  have hn2 : (0 : Int) < n := by omega
  have bo : (op == 12) = true := by rw [beq_iff_eq]; exact Ti
  by_cases hk2 : hk = 2
  ·
   have HG := qh (HP.out.trans (if_neg (by omega)))
   have bk : (hk != 2) = false := by simp [hk2]
   clear Ti hk2 hn1
   go_wp2
   go_ret
   exact ⟨ah (by rw [HG.out]), hbw⟩
  ·
   have HG := qh (HP.out.trans (if_pos (by omega)))
   have bk : (hk != 2) = true := by simpa using hk2
   clear Ti hk2 hn1
   go_wp2
   go_ret
   exact ⟨ah (by rw [HG.out]), hbw⟩
 have agR : (op == 12) = false := by rw [beq_eq_false_iff_ne]; exact Ti
 by_cases Tj : op = 13
 ·
  have hn1 : n = 1 := by
   have h := HXB.out
   have e := xR (op := op) (by omega)
   unfold aG at h
   rw [e] at h
   split at h
   ·
    cases h
   ·
    simp at h; omega
  obtain ⟨ad, rfl, had, hcell⟩ := HA.out (by omega)
  have hck : w3.cell? ad = some (.int .i64 hk) := by rw [hbw.cell (by have := HX.out.2; omega)]; exact hcell
  have hn0 : 0 < n := by omega
  have hn2 : (0 : Int) < n := by omega
  have bo : (op == 13) = true := by rw [beq_iff_eq]; exact Tj
  by_cases hk2 : hk = 2
  ·
   have HG := qh (HP.out.trans (if_neg (by omega)))
   have bk : (hk != 2) = false := by simp [hk2]
   clear Tj hk2 hn1
   go_wp2
   go_ret
   exact ⟨ah (by rw [HG.out]), hbw⟩
  ·
   have HG := qh (HP.out.trans (if_pos (by omega)))
   have bk : (hk != 2) = true := by simpa using hk2
   clear Tj hk2 hn1
   go_wp2
   go_ret
   exact ⟨ah (by rw [HG.out]), hbw⟩
 have agS : (op == 13) = false := by rw [beq_eq_false_iff_ne]; exact Tj
 by_cases Tm : op = 14
 ·
  have hn1 : n = 1 := by
   have h := HXB.out
   have e := xR (op := op) (by omega)
   unfold aG at h
   rw [e] at h
   split at h
   ·
    cases h
   ·
    simp at h; omega
  obtain ⟨ad, rfl, had, hcell⟩ := HA.out (by omega)
  have hck : w3.cell? ad = some (.int .i64 hk) := by rw [hbw.cell (by have := HX.out.2; omega)]; exact hcell
  have hn0 : 0 < n := by omega
  have hn2 : (0 : Int) < n := by omega
  have bo : (op == 14) = true := by rw [beq_iff_eq]; exact Tm
  by_cases hk2 : hk = 2
  ·
   have HG := qh (HP.out.trans (if_neg (by omega)))
   have bk : (hk != 2) = false := by simp [hk2]
   clear Tm hk2 hn1
   go_wp2
   go_ret
   exact ⟨ah (by rw [HG.out]), hbw⟩
  ·
   have HG := qh (HP.out.trans (if_pos (by omega)))
   have bk : (hk != 2) = true := by simpa using hk2
   clear Tm hk2 hn1
   go_wp2
   go_ret
   exact ⟨ah (by rw [HG.out]), hbw⟩
 have agT : (op == 14) = false := by rw [beq_eq_false_iff_ne]; exact Tm
 have HG := qh (HP.out.trans (if_neg (by omega)))
 clear Ti Tj Tm
 go_wp2
 go_ret
 exact ⟨ah (by rw [HG.out]), hbw⟩
theorem I8 (op : Int) (nm : ByteArray) (v : Val) (n : Nat) (hk : Int) (A : Option Addr) (c : Nat) (A' : Option Addr) (c' B : Nat) (w : World) (hnm : nm.size ≤ maxLen) (hvs : v.s.size ≤ maxLen) (hvl : v.l.length ≤ maxLen) (hn : n ≤ maxLen)
  (hx : Reads w B 1 A v.l.length (dS .i64 v.l)) (hB : B ≤ w.heap.size) (hA : 0 < n → ∃ ad, A' = some ad ∧ ad.block < B ∧ w.cell? ad = some (.int .i64 hk)) :
  Calls Tryz.prog 41 #[.agg #[.int .i64 5, .int .i64 op, .string nm, .int .i64 v.k, .int .i64 v.n, .string v.s, .slice A v.l.length c, .slice A' n c']] w fun e w' => e = .returned (.int .i64 (iM 5 op nm v n hk)) ∧ Below w.heap.size w w' := by
 have HX := qh (And.intro hx hB)
 have HA := qh hA
 have zM := qh hn
 unfold maxLen at hn
 clear hx hB hA
 obtain ⟨x, hx0⟩ := ae (aG 5 op nm v n)
 have HXB := qh hx0
 have HEX := qh (fun w' => qZ 5 op nm v n A c A' c' w' zM.out (by omega) (by omega))
 clear hx0
 obtain ⟨o, ho⟩ := ae (bF op 1 6)
 have HO := qh ho
 clear ho
 go_enter Tryz.func41, Tryz.ntmps41
 go_wp2_with fail
 obtain ⟨W, hW⟩ := au ((w.alloc (.cells #[.int .i64 5, .int .i64 op, .string nm, .int .i64 v.k, .int .i64 v.n, .string v.s, .slice A v.l.length c, .slice A' n c'] 27 (0, 0))))
 have hbw : Below w.heap.size w W := by rw [hW]; exact ((Below.refl _ w).alloc (Nat.le_refl _) _)
 have B0 : af W (w.heap.size) 27 #[.int .i64 5, .int .i64 op, .string nm, .int .i64 v.k, .int .i64 v.n, .string v.s, .slice A v.l.length c, .slice A' n c'] := by
  rw [hW]
  have := af.new w 27 #[.int .i64 5, .int .i64 op, .string nm, .int .i64 v.k, .int .i64 v.n, .string v.s, .slice A v.l.length c, .slice A' n c']
  exact this
 have hsz : W.heap.size = w.heap.size + 1 := by rw [hW]; simp
 rw [← hW]
 clear hW hsz
 obtain ⟨aQ, aS, aT, aU, aY, aZ, bu, bz⟩ := af.c8 B0
 refine (aW _ _ _ W).mono ?_
 rw [oH (by omega) (by omega)]
 rintro e1 w1 ⟨rfl, rfl⟩
 go_wp2_with fail
 refine (aW _ _ _ W).mono ?_
 rw [HO.out]
 rintro e2 w2 ⟨rfl, rfl⟩
 cases o
 rotate_left
 ·
  go_wp2
  go_ret
  exact ⟨ah (by rw [IY HO.out]), hbw⟩
 go_wp2_with fail
 refine (HEX.out W).mono ?_
 rw [HXB.out]
 rintro e3 w3 ⟨rfl, hb3⟩
 have B0 := B0.below hb3 B0.lt
 have hbw := hbw.trans (hb3.mono hbw.size)
 clear hb3 aQ aS aT aU aY aZ bu bz
 obtain ⟨aQ, aS, aT, aU, aY, aZ, bu, bz⟩ := af.c8 B0
 cases x
 rotate_left
 ·
  go_wp2
  go_ret
  exact ⟨ah (by rw [iG (by omega) (by omega) (by omega) (fun _ => HO.out) HXB.out]), hbw⟩
 obtain ⟨b, hb⟩ := ae (eu nm.data.toList)
 have HB := qh hb
 have HP := qh (vJ (hk := hk) (k := 5) (by omega) (fun _ => HO.out) HXB.out)
 clear hb
 go_wp2_with fail
 refine (wZ nm w3 hnm).mono ?_
 rw [HB.out]
 rintro e4 w4 ⟨rfl, rfl⟩
 cases b
 ·
  go_wp2
  go_ret
  exact ⟨ah (by rw [HP.out, HB.out]; rfl), hbw⟩
 ·
  go_wp2
  go_ret
  exact ⟨ah (by rw [HP.out, HB.out]; rfl), hbw⟩
theorem DX (k op : Int) (nm : ByteArray) (v : Val) (n : Nat) (hk : Int) (A : Option Addr) (c : Nat) (A' : Option Addr) (c' B : Nat) (w : World) (hnm : nm.size ≤ maxLen) (hvs : v.s.size ≤ maxLen) (hvl : v.l.length ≤ maxLen) (hn : n ≤ maxLen)
  (hx : Reads w B 1 A v.l.length (dS .i64 v.l)) (hB : B ≤ w.heap.size) (hA : 0 < n → ∃ ad, A' = some ad ∧ ad.block < B ∧ w.cell? ad = some (.int .i64 hk)) :
  Calls Tryz.prog 41 #[.agg #[.int .i64 k, .int .i64 op, .string nm, .int .i64 v.k, .int .i64 v.n, .string v.s, .slice A v.l.length c, .slice A' n c']] w fun e w' => e = .returned (.int .i64 (iM k op nm v n hk)) ∧ Below w.heap.size w w' := by
 by_cases ho : bF k 1 5 = true
 ·
  exact DW k op nm v n hk A c A' c' w ho
 ·
  have h : k = 1 ∨ k = 2 ∨ k = 3 ∨ k = 4 ∨ k = 5 := by simp [bF] at ho; omega
  rcases h with rfl | rfl | rfl | rfl | rfl
  ·
   exact IZ op nm v n hk A c A' c' B w hnm hvs hvl hn hx hB hA
  ·
   exact I4 op nm v n hk A c A' c' B w hnm hvs hvl hn hx hB hA
  ·
   exact I5 op nm v n hk A c A' c' B w hnm hvs hvl hn hx hB hA
  ·
   exact I7 op nm v n hk A c A' c' B w hnm hvs hvl hn hx hB hA
  ·
   exact I8 op nm v n hk A c A' c' B w hnm hvs hvl hn hx hB hA
end Go.Proofs.YtobanldeicclmaaGreatDoor
