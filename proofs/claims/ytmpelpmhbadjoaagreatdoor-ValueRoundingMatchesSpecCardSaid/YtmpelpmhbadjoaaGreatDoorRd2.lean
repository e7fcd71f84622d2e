/- The reference's power, nearest, places and Rounded. -/
import Derived.Test.YtmpelpmhbadjoaaGreatDoorRd1
import Derived.Test.YtmpelpmhbadjoaaGreatDoorRR3
namespace Go.Proofs.YtmpelpmhbadjoaaGreatDoor
open Go.RowKit Limb Dig Rtx

set_option maxHeartbeats 1000000 in
theorem rpower_any (n : Int) (w : World) (h1 : 0 ≤ n) (h2 : n ≤ 20) :
    Calls Tryz.prog 47 #[.int .i64 n] w fun e w' => (∃ A m c, e = .returned (.slice A m c) ∧ RepI w' 3 (.slice A m c) (10 ^ n.toNat)) ∧ Below w.heap.size w w' := by
  go_enter Tryz.func47, Tryz.ntmps47
  go_wp2_with fail
  refine (repeat0_i n w h1 h2).mono ?_
  rintro e w1 ⟨⟨t, rfl, ht⟩, hb⟩
  have hts : t.size ≤ 20 := by rw [zeros_size ht]; omega
  have HT := Lib.hid ht
  clear ht
  go_wp2_with fail
  refine (read_any _ w1 (by rw [one_zeros_size HT.out]; omega) (one_zeros_dig HT.out)).mono ?_
  rintro e w2 ⟨hr, hb2⟩
  obtain ⟨A, m, c, rfl, hv⟩ := sl_formI hr
  rw [one_zeros HT.out, digVal_one_zeros] at hv
  have HV := Lib.hid (hv.mono (show _ ≤ 3 by rw [one_zeros_size HT.out]; omega))
  clear hv hr
  go_wp2
  go_ret
  exact ⟨⟨_, _, _, rfl, HV.out⟩, hb.trans (hb2.mono hb.size)⟩
theorem rover_form {e : Ending} {w : World} {L x y : Nat} (h : ∃ q r, e = .returned (.tuple #[q, r]) ∧ RepI w L q x ∧ RepI w L r y) : ∃ A n c A' n' c', e = .returned (.tuple #[.slice A n c, .slice A' n' c']) ∧ RepI w L (.slice A n c) x ∧ RepI w L (.slice A' n' c') y := by
  obtain ⟨q, r, he, hq, hr⟩ := h
  obtain ⟨A, n, c, rfl, -⟩ := hq.form
  obtain ⟨A', n', c', rfl, -⟩ := hr.form
  exact ⟨A, n, c, A', n', c', he, hq, hr⟩
theorem rsmall_sl (n : Nat) (w : World) (hn : n ≤ 2) :
    Calls Tryz.prog 54 #[.int .i64 n] w fun e w' => (∃ A m c, e = .returned (.slice A m c) ∧ RepI w' 3 (.slice A m c) n) ∧ Below w.heap.size w w' :=
  (rsmall_any n w (by omega)).mono fun _ _ ⟨h, hb⟩ => ⟨sl_formI h, hb⟩
structure NumI (w : World) (v : Value) (x : Nat) : Prop where
  ex : ∃ A n c, v = .slice A n c ∧ RepI w 300 (.slice A n c) x
set_option maxHeartbeats 4000000 in
set_option maxRecDepth 100000 in
theorem rnearest_any (n d : ByteArray) (p : Int) (w : World) (hok : fltR (rx n d) = 0) (hp1 : 0 ≤ p) (hp2 : p ≤ 20) :
    Calls Tryz.prog 46 #[.agg #[.string n, .string d], .int .i64 p] w fun e w' => (∃ b A1 n1 c1 A2 n2 c2, e = .returned (.agg #[.bool b, .slice A1 n1 c1, .slice A2 n2 c2]) ∧ b = negS (rx n d) p.toNat ∧ RepI w' 300 (.slice A1 n1 c1) (scaleR (rx n d) p.toNat)) ∧ Below w.heap.size w w' := by
  have HOK := Lib.hid hok
  clear hok
  go_enter Tryz.func46, Tryz.ntmps46
  go_wp2_with fail
  obtain ⟨W, hW⟩ : ∃ W, W = ((w.alloc (.cells #[.string n, .string d] 23 (0, 0))).alloc (.cells #[.bool false, .slice none 0 0, .slice none 0 0] 53 (0, 0))) := ⟨_, rfl⟩
  have hbw : Below w.heap.size w W := by rw [hW]; exact (((Below.refl _ w).alloc (Nat.le_refl _) _).alloc (by simp) _)
  have B0 : Blk W (w.heap.size) 23 #[.string n, .string d] := by
    rw [hW]
    have := Blk.new w 23 #[.string n, .string d]
    have := this.alloc (.cells #[.bool false, .slice none 0 0, .slice none 0 0] 53 (0, 0))
    exact this
  have B1 : Blk W (w.heap.size + 1) 53 #[.bool false, .slice none 0 0, .slice none 0 0] := by
    rw [hW]
    have := Blk.new (w.alloc (.cells #[.string n, .string d] 23 (0, 0))) 53 #[.bool false, .slice none 0 0, .slice none 0 0]
    rwa [World.size_alloc] at this
  have hsz : W.heap.size = w.heap.size + 2 := by rw [hW]; simp
  rw [← hW]
  clear hW
  refine (open_sl n d W HOK.out).mono ?_
  rintro e w1 ⟨⟨b1, A1, n1, c1, A2, n2, c2, rfl, hp⟩, hb1⟩
  have HU := Lib.hid hp
  have hbw := hbw.trans (hb1.mono hbw.size)
  have hs1 := hb1.size
  have B1 := B1.below hb1 B1.lt
  clear hp hb1
  go_upto_region 2 with (fail)
  obtain ⟨W2, hW2⟩ : ∃ W2, W2 = w1.alloc (.cells #[.bool b1, .slice A1 n1 c1, .slice A2 n2 c2] 53 (0, 0)) := ⟨_, rfl⟩
  have hb2 : Below w1.heap.size w1 W2 := hW2 ▸ (Below.refl _ w1).alloc (Nat.le_refl _) _
  have B3 : Blk W2 w1.heap.size 53 #[.bool b1, .slice A1 n1 c1, .slice A2 n2 c2] := by
    rw [hW2]
    exact Blk.new w1 53 #[.bool b1, .slice A1 n1 c1, .slice A2 n2 c2]
  rw [← hW2]
  clear hW2
  have hbw := hbw.trans (hb2.mono hbw.size)
  have B1 := B1.below hb2 B1.lt
  have uc0 : W2.cell? ⟨w1.heap.size, 0, none⟩ = some (.bool b1) := B3.cell 0
  have uc1 : W2.cell? ⟨w1.heap.size, 1, none⟩ = some (.slice A1 n1 c1) := B3.cell 1
  have uc2 : W2.cell? ⟨w1.heap.size, 2, none⟩ = some (.slice A2 n2 c2) := B3.cell 2
  obtain ⟨x1, hx1⟩ : ∃ x, digVal (cutN n.data.toList).1 = x := ⟨_, rfl⟩
  obtain ⟨y1, hy1⟩ : ∃ x, digVal d.data.toList = x := ⟨_, rfl⟩
  obtain ⟨e1, g1, g2, g3⟩ := (HU.out.below hb2).parts
  rw [hx1] at g1
  rw [hy1] at g2 g3
  obtain ⟨D, hD⟩ : ∃ D, 10 ^ p.toNat = D := ⟨_, rfl⟩
  obtain ⟨N, hN⟩ : ∃ N, x1 * D = N := ⟨_, rfl⟩
  have HS := Lib.hid (show scaleR (rx n d) p.toNat = rndN N y1 by
    show rndN (digVal (cutN n.data.toList).1 * 10 ^ p.toNat) (digVal d.data.toList) = _
    rw [hx1, hy1, hD, hN])
  have HN := Lib.hid (show negS (rx n d) p.toNat = (b1 && decide (0 < rndN N y1)) by
    unfold negS
    rw [HS.out, show negR (rx n d) = b1 from e1.symm])
  have HG1 := Lib.hid g1
  have HG2 := Lib.hid g2
  have HDD := Lib.hid hD
  have HNN := Lib.hid hN
  clear g1 g2 e1 hx1 hy1 hD hN hb2 HU
  have hq0 : Below W2.heap.size W2 W2.drew := (Below.refl _ _).drew
  go_region_held3 (fun w' => w'.cell? ⟨w1.heap.size, 1, none⟩ = some (.slice A1 n1 c1) ∧ w'.cell? ⟨w1.heap.size, 2, none⟩ = some (.slice A2 n2 c2) ∧ Below W2.heap.size W2 w')
    (first | exact ⟨Below.cell_of hq3 uc1, Below.cell_of hq3 uc2, hq3⟩ | exact ⟨Below.cell_of hq2 uc1, Below.cell_of hq2 uc2, hq2⟩ | exact ⟨Below.cell_of hq1 uc1, Below.cell_of hq1 uc2, hq1⟩ | exact ⟨Below.cell_of hq0 uc1, Below.cell_of hq0 uc2, hq0⟩)
    (first
      | (go_at_call 47; refine (rpower_any p _ hp1 hp2).mono ?_; rintro e w2 ⟨⟨Ap, np, cp, rfl, hp⟩, hb4⟩; have hq1 := hq0.trans (hb4.mono hq0.size); rw [HDD.out] at hp)
      | (go_at_call 38; refine (rtimes_rep _ 223 3 (.slice A1 n1 c1) _ x1 D (HG1.out.below hq1) hp (by omega) (by omega)).mono ?_; rintro e w3 ⟨hv, hb5⟩; obtain ⟨At, nt, ct, rfl, ht⟩ := sl_formI hv; have hq2 := hq1.trans (hb5.mono hq1.size); rw [HNN.out] at ht)
      | (go_at_call 53; refine (rover_rep _ 227 223 _ _ N y1 ht (HG2.out.below hq2) (by omega) (by omega) g3).mono ?_; rintro e w4 ⟨hv3, hb8⟩; obtain ⟨Aq, nq, cq, Ar, nr, cr, rfl, hqq, hrr⟩ := rover_form hv3; have hq3 := hq2.trans (hb8.mono hq2.size)))
  have HQ := Lib.hid hqq
  have HR := Lib.hid hrr
  clear hqq hrr hv3 hv ht hp
  have B1 := B1.below hq3 B1.lt
  have B3 := B3.below hq3 B3.lt
  have HG2 := Lib.hid (HG2.out.below hq3)
  have hbw := hbw.trans (hq3.mono hbw.size)
  clear hq0 hq1 hq2 hq3 hb4 hb5 hb8 HG1 uc0 uc1 uc2
  have uc0 : w4.cell? ⟨w1.heap.size, 0, none⟩ = some (.bool b1) := B3.cell 0
  have uc1 : w4.cell? ⟨w1.heap.size, 1, none⟩ = some (.slice A1 n1 c1) := B3.cell 1
  have uc2 : w4.cell? ⟨w1.heap.size, 2, none⟩ = some (.slice A2 n2 c2) := B3.cell 2
  obtain ⟨r1, hr1⟩ : ∃ r, N % y1 = r := ⟨_, rfl⟩
  obtain ⟨q1, hq1⟩ : ∃ r, N / y1 = r := ⟨_, rfl⟩
  obtain ⟨hup, hdn⟩ := rnd_ref N y1 g3
  rw [hr1, hq1] at hup hdn
  rw [hr1] at HR
  rw [hq1] at HQ
  have HUP := Lib.hid hup
  have HDN := Lib.hid hdn
  clear hr1 hq1 hup hdn
  obtain ⟨ob, hob⟩ : ∃ ob, decide (0 ≤ ordI ((r1 : Int) + (r1 : Int)) ((y1 : Nat) : Int)) = ob := ⟨_, rfl⟩
  have HOB := Lib.hid (show (y1 ≤ r1 + r1 → ob = true) ∧ (r1 + r1 < y1 → ob = false) by
    rw [← hob]
    unfold ordI
    constructor
    · intro h
      rw [if_neg (by omega)]
      split <;> decide
    · intro h
      rw [if_pos (by omega)]
      decide)
  have hq0 : Below w4.heap.size w4 w4.drew := (Below.refl _ _).drew
  go_upto_region 3 with (fail)
  go_region_held3 (fun w' => w'.cell? ⟨w1.heap.size, 2, none⟩ = some (.slice A2 n2 c2) ∧ Below w4.heap.size w4 w')
    (first | exact ⟨Below.cell_of hq2 uc2, hq2⟩ | exact ⟨Below.cell_of hq1 uc2, hq1⟩ | exact ⟨Below.cell_of hq0 uc2, hq0⟩)
    (first
      | (go_at_call 39; refine (rplus_rep _ 227 227 _ _ r1 r1 (HR.out.below hq0) (HR.out.below hq0) (by omega) (by omega)).mono ?_; rintro e w5 ⟨hv2, hb7⟩; obtain ⟨Au, nu, cu, rfl, hu⟩ := sl_formI hv2; have hq1 := hq0.trans (hb7.mono hq0.size))
      | (go_at_call 40; refine (rorder_rep _ 228 223 _ _ (r1 + r1) y1 hu (HG2.out.below hq1) (by omega) (by omega)).mono ?_; rintro e w5 ⟨rfl, hb8⟩; have hq2 := hq1.trans (hb8.mono hq1.size)))
  clear hu hv2 hob
  have HQ := Lib.hid (HQ.out.below hq2)
  have B1 := B1.below hq2 B1.lt
  have B3 := B3.below hq2 B3.lt
  have hbw := hbw.trans (hq2.mono hbw.size)
  clear hq0 hq1 hq2 hb7 hb8 HG2 HR uc0 uc1 uc2
  go_upto_if 27 with (fail)
  go_cut [6] (fun v wx => NumI wx v (rndN N y1) ∧ Below w5.heap.size w5 wx)
  case first =>
    cases ob
    · have HX := Lib.hid (HDN.out (by
        rcases Nat.lt_or_ge (r1 + r1) y1 with h | h
        · exact h
        · exact absurd (HOB.out.1 h) (by simp)))
      go_wp2_with (fail)
      go_meet
      exact ⟨⟨_, _, _, rfl, by rw [HX.out]; exact HQ.out.mono (by omega)⟩, Below.refl _ _⟩
    · have HX := Lib.hid (HUP.out (by
        rcases Nat.lt_or_ge (r1 + r1) y1 with h | h
        · exact absurd (HOB.out.2 h) (by simp)
        · exact h))
      go_wp2_with (fail)
      refine (rsmall_sl 1 _ (by omega)).mono ?_
      rintro e w6 ⟨⟨As, ns, cs, rfl, hs⟩, hb6⟩
      have HS1 := Lib.hid hs
      clear hs
      go_wp2_with (fail)
      refine (rplus_rep _ 227 3 _ _ q1 1 (HQ.out.below hb6) HS1.out (by omega) (by omega)).mono ?_
      rintro e w7 ⟨hv, hb7⟩
      obtain ⟨Au, nu, cu, rfl, hu⟩ := sl_formI hv
      have HU := Lib.hid hu
      clear hu hv
      go_wp2_with (fail)
      go_meet
      exact ⟨⟨_, _, _, rfl, by rw [HX.out]; exact HU.out.mono (by omega)⟩, hb6.trans (hb7.mono hb6.size)⟩
  case rest =>
  obtain ⟨⟨hnum⟩, hbc⟩ := hcut
  obtain ⟨Aq', nq', cq', rfl, hqq⟩ := hnum
  obtain ⟨Aq, nq, cq, rfl, rfl, rfl⟩ : ∃ A n c, A = Aq' ∧ n = nq' ∧ c = cq' := ⟨_, _, _, rfl, rfl, rfl⟩
  have HQ := Lib.hid hqq
  have HPO := Lib.hid hqq.form
  clear hqq
  have B1 := B1.below hbc B1.lt
  have B3 := B3.below hbc B3.lt
  have hbw := hbw.trans (hbc.mono hbw.size)
  clear hbc HUP HDN HOB
  have uc0 : wc.cell? ⟨w1.heap.size, 0, none⟩ = some (.bool b1) := B3.cell 0
  have uc1 : wc.cell? ⟨w1.heap.size, 1, none⟩ = some (.slice A1 n1 c1) := B3.cell 1
  have uc2 : wc.cell? ⟨w1.heap.size, 2, none⟩ = some (.slice A2 n2 c2) := B3.cell 2
  obtain ⟨bq, hbq⟩ : ∃ bq, (b1 && decide (0 < nq)) = bq := ⟨_, rfl⟩
  have HNQ := Lib.hid (show negS (rx n d) p.toNat = bq by
    rw [HN.out, ← hbq]
    congr 1
    rw [decide_eq_decide]
    obtain ⟨A, m, c, e, h, -⟩ := HPO.out
    injection e with _ e2 _
    rw [e2]
    exact h.symm)
  rw [← HS.out] at HQ
  have HBQ := Lib.hid hbq
  clear hbq HPO HN
  by_cases hz : nq = 0
  · have hz2 : decide (0 < nq) = false := by simp; omega
    have HB2 := Lib.hid (show bq = false by rw [← HBQ.out, hz2]; simp)
    rw [HB2.out] at HNQ
    clear HBQ
    subst hz
    cases b1
    all_goals
      go_wp2_with (fail)
      refine (rsmall_sl 1 _ (by omega)).mono ?_
      rintro e w6 ⟨⟨As, ns, cs, rfl, -⟩, hb4⟩
      have HQ := Lib.hid (HQ.out.below hb4)
      have B1 := B1.below hb4 B1.lt
      have hbw := hbw.trans (hb4.mono hbw.size)
      clear hb4
      have rc0 : w6.cell? ⟨w.heap.size + 1, 0, none⟩ = some (.bool false) := B1.cell 0
      have rz0 : w6.frozen? ⟨w.heap.size + 1, 0, none⟩ = false := B1.frozen 0
      have rc1 : w6.cell? ⟨w.heap.size + 1, 1, none⟩ = some (.slice none 0 0) := B1.cell 1
      have rz1 : w6.frozen? ⟨w.heap.size + 1, 1, none⟩ = false := B1.frozen 1
      have rc2 : w6.cell? ⟨w.heap.size + 1, 2, none⟩ = some (.slice none 0 0) := B1.cell 2
      have rz2 : w6.frozen? ⟨w.heap.size + 1, 2, none⟩ = false := B1.frozen 2
      go_wp2
      obtain ⟨W9, hW9⟩ : ∃ W9, W9 = ((w6.setCell ⟨w.heap.size + 1, 0, none⟩ (.bool false)).setCell ⟨w.heap.size + 1, 1, none⟩ (.slice Aq 0 cq)).setCell ⟨w.heap.size + 1, 2, none⟩ (.slice As ns cs) := ⟨_, rfl⟩
      have B9 : Blk W9 (w.heap.size + 1) 53 #[.bool false, .slice Aq 0 cq, .slice As ns cs] := hW9 ▸ B1.store3 _ _ _
      have hbw9 : Below w.heap.size w W9 := hW9 ▸ hbw.store3 (by omega) _ _ _
      have HQ9 := Lib.hid (hW9 ▸ ((HQ.out.box rc0 _).box ((B1.set_ 0 _).cell 1) _).box (((B1.set_ 0 _).set_ 1 _).cell 2) _ : RepI W9 300 (.slice Aq 0 cq) _)
      rw [← hW9]
      clear hW9
      have qc0 : W9.cell? ⟨w.heap.size + 1, 0, none⟩ = some (.bool false) := B9.cell 0
      have qc1 : W9.cell? ⟨w.heap.size + 1, 1, none⟩ = some (.slice Aq 0 cq) := B9.cell 1
      have qc2 : W9.cell? ⟨w.heap.size + 1, 2, none⟩ = some (.slice As ns cs) := B9.cell 2
      refine bodyPost_ret (v := .agg #[.bool false, .slice Aq 0 cq, .slice As ns cs]) (by simp [results, Tryz.results46, go_sem, qc0, qc1, qc2]) rfl ⟨⟨_, _, _, _, _, _, _, rfl, HNQ.out.symm, HQ9.out⟩, hbw9⟩
  have hz2 : decide (0 < nq) = true := by simp; omega
  have HB2 := Lib.hid (show bq = b1 by rw [← HBQ.out, hz2]; simp)
  rw [HB2.out] at HNQ
  cases b1
  · go_wp2_with (fail)
    refine (rsmall_sl 1 _ (by omega)).mono ?_
    rintro e w6 ⟨⟨As, ns, cs, rfl, -⟩, hb4⟩
    have HQ := Lib.hid (HQ.out.below hb4)
    have B1 := B1.below hb4 B1.lt
    have hbw := hbw.trans (hb4.mono hbw.size)
    clear hb4
    have rc0 : w6.cell? ⟨w.heap.size + 1, 0, none⟩ = some (.bool false) := B1.cell 0
    have rz0 : w6.frozen? ⟨w.heap.size + 1, 0, none⟩ = false := B1.frozen 0
    have rc1 : w6.cell? ⟨w.heap.size + 1, 1, none⟩ = some (.slice none 0 0) := B1.cell 1
    have rz1 : w6.frozen? ⟨w.heap.size + 1, 1, none⟩ = false := B1.frozen 1
    have rc2 : w6.cell? ⟨w.heap.size + 1, 2, none⟩ = some (.slice none 0 0) := B1.cell 2
    have rz2 : w6.frozen? ⟨w.heap.size + 1, 2, none⟩ = false := B1.frozen 2
    go_wp2
    obtain ⟨W9, hW9⟩ : ∃ W9, W9 = ((w6.setCell ⟨w.heap.size + 1, 0, none⟩ (.bool false)).setCell ⟨w.heap.size + 1, 1, none⟩ (.slice Aq nq cq)).setCell ⟨w.heap.size + 1, 2, none⟩ (.slice As ns cs) := ⟨_, rfl⟩
    have B9 : Blk W9 (w.heap.size + 1) 53 #[.bool false, .slice Aq nq cq, .slice As ns cs] := hW9 ▸ B1.store3 _ _ _
    have hbw9 : Below w.heap.size w W9 := hW9 ▸ hbw.store3 (by omega) _ _ _
    have HQ9 := Lib.hid (hW9 ▸ ((HQ.out.box rc0 _).box ((B1.set_ 0 _).cell 1) _).box (((B1.set_ 0 _).set_ 1 _).cell 2) _ : RepI W9 300 (.slice Aq nq cq) _)
    rw [← hW9]
    clear hW9
    have qc0 : W9.cell? ⟨w.heap.size + 1, 0, none⟩ = some (.bool false) := B9.cell 0
    have qc1 : W9.cell? ⟨w.heap.size + 1, 1, none⟩ = some (.slice Aq nq cq) := B9.cell 1
    have qc2 : W9.cell? ⟨w.heap.size + 1, 2, none⟩ = some (.slice As ns cs) := B9.cell 2
    refine bodyPost_ret (v := .agg #[.bool false, .slice Aq nq cq, .slice As ns cs]) (by simp [results, Tryz.results46, go_sem, qc0, qc1, qc2]) rfl ⟨⟨_, _, _, _, _, _, _, rfl, HNQ.out.symm, HQ9.out⟩, hbw9⟩
  · go_wp2_with (fail)
    refine (rsmall_sl 1 _ (by omega)).mono ?_
    rintro e w6 ⟨⟨As, ns, cs, rfl, -⟩, hb4⟩
    have HQ := Lib.hid (HQ.out.below hb4)
    have B1 := B1.below hb4 B1.lt
    have hbw := hbw.trans (hb4.mono hbw.size)
    clear hb4
    have rc0 : w6.cell? ⟨w.heap.size + 1, 0, none⟩ = some (.bool false) := B1.cell 0
    have rz0 : w6.frozen? ⟨w.heap.size + 1, 0, none⟩ = false := B1.frozen 0
    have rc1 : w6.cell? ⟨w.heap.size + 1, 1, none⟩ = some (.slice none 0 0) := B1.cell 1
    have rz1 : w6.frozen? ⟨w.heap.size + 1, 1, none⟩ = false := B1.frozen 1
    have rc2 : w6.cell? ⟨w.heap.size + 1, 2, none⟩ = some (.slice none 0 0) := B1.cell 2
    have rz2 : w6.frozen? ⟨w.heap.size + 1, 2, none⟩ = false := B1.frozen 2
    go_wp2
    obtain ⟨W9, hW9⟩ : ∃ W9, W9 = ((w6.setCell ⟨w.heap.size + 1, 0, none⟩ (.bool true)).setCell ⟨w.heap.size + 1, 1, none⟩ (.slice Aq nq cq)).setCell ⟨w.heap.size + 1, 2, none⟩ (.slice As ns cs) := ⟨_, rfl⟩
    have B9 : Blk W9 (w.heap.size + 1) 53 #[.bool true, .slice Aq nq cq, .slice As ns cs] := hW9 ▸ B1.store3 _ _ _
    have hbw9 : Below w.heap.size w W9 := hW9 ▸ hbw.store3 (by omega) _ _ _
    have HQ9 := Lib.hid (hW9 ▸ ((HQ.out.box rc0 _).box ((B1.set_ 0 _).cell 1) _).box (((B1.set_ 0 _).set_ 1 _).cell 2) _ : RepI W9 300 (.slice Aq nq cq) _)
    rw [← hW9]
    clear hW9
    have qc0 : W9.cell? ⟨w.heap.size + 1, 0, none⟩ = some (.bool true) := B9.cell 0
    have qc1 : W9.cell? ⟨w.heap.size + 1, 1, none⟩ = some (.slice Aq nq cq) := B9.cell 1
    have qc2 : W9.cell? ⟨w.heap.size + 1, 2, none⟩ = some (.slice As ns cs) := B9.cell 2
    refine bodyPost_ret (v := .agg #[.bool true, .slice Aq nq cq, .slice As ns cs]) (by simp [results, Tryz.results46, go_sem, qc0, qc1, qc2]) rfl ⟨⟨_, _, _, _, _, _, _, rfl, HNQ.out.symm, HQ9.out⟩, hbw9⟩
set_option maxHeartbeats 1000000 in
theorem rplaces_any (n d : ByteArray) (p : Int) (w : World) (hn : n.size ≤ maxLen) (hd : d.size ≤ maxLen) (htab : Tab w) :
    Calls Tryz.prog 45 #[.agg #[.string n, .string d], .int .i64 p] w fun e w' => e = .returned (.int .i64 (rndF (rx n d) p : Nat)) ∧ Below w.heap.size w w' := by
  have HT := Lib.hid htab
  clear htab
  go_enter Tryz.func45, Tryz.ntmps45
  go_wp2_with fail
  obtain ⟨W, hW⟩ : ∃ W, W = (w.alloc (.cells #[.string n, .string d] 23 (0, 0))) := ⟨_, rfl⟩
  have hbw : Below w.heap.size w W := by rw [hW]; exact ((Below.refl _ w).alloc (Nat.le_refl _) _)
  have B0 : Blk W (w.heap.size) 23 #[.string n, .string d] := by
    rw [hW]
    have := Blk.new w 23 #[.string n, .string d]
    exact this
  have hsz : W.heap.size = w.heap.size + 1 := by rw [hW]; simp
  rw [← hW]
  clear hW hsz
  refine (rcheck_any n d W hn hd (HT.out.below hbw)).mono ?_
  rintro e w1 ⟨rfl, hb1⟩
  have hbw := hbw.trans (hb1.mono hbw.size)
  obtain ⟨f, hf⟩ : ∃ f, fltR (rx n d) = f := ⟨_, rfl⟩
  have HF := Lib.hid hf
  rw [hf]
  clear hf hb1
  by_cases h0 : f = 0
  rotate_left
  · have hne : (((f : Nat) : Int) != 0) = true := by simp; omega
    have HE := Lib.hid (show rndF (rx n d) p = f by rw [rndF_flt (by rw [HF.out]; exact h0), HF.out])
    go_wp2
    go_ret
    exact ⟨ret_val (by rw [HE.out]; rfl), hbw⟩
  subst h0
  by_cases hp1 : p < 0
  · have HE := Lib.hid (show rndF (rx n d) p = 1 from rndF_out HF.out (.inl hp1))
    go_wp2
    go_ret
    exact ⟨ret_val (by rw [HE.out]; rfl), hbw⟩
  by_cases hp2 : 20 < p
  · have HE := Lib.hid (show rndF (rx n d) p = 1 from rndF_out HF.out (.inr hp2))
    go_wp2
    go_ret
    exact ⟨ret_val (by rw [HE.out]; rfl), hbw⟩
  have HE := Lib.hid (show rndF (rx n d) p = 0 from rndF_in HF.out (by omega) (by omega))
  go_wp2
  go_ret
  exact ⟨ret_val (by rw [HE.out]; rfl), hbw⟩
set_option maxHeartbeats 2000000 in
set_option maxRecDepth 100000 in
theorem rRounded_any (n d : ByteArray) (p : Int) (w : World) (hn : n.size ≤ maxLen) (hd : d.size ≤ maxLen) (htab : Tab w) :
    Calls Tryz.prog 18 #[.agg #[.string n, .string d], .int .i64 p] w fun e w' => e = .returned (outV (roundR (rx n d) p)) ∧ Below w.heap.size w w' := by
  have HT := Lib.hid htab
  clear htab
  go_enter Tryz.func18, Tryz.ntmps18
  go_wp2_with fail
  obtain ⟨W, hW⟩ : ∃ W, W = ((w.alloc (.cells #[.string n, .string d] 23 (0, 0))).alloc (.cells #[.string ⟨#[]⟩, .string ⟨#[]⟩] 23 (0, 0))) := ⟨_, rfl⟩
  have hbw : Below w.heap.size w W := by rw [hW]; exact (((Below.refl _ w).alloc (Nat.le_refl _) _).alloc (by simp) _)
  have B0 : Blk W (w.heap.size) 23 #[.string n, .string d] := by
    rw [hW]
    have := Blk.new w 23 #[.string n, .string d]
    have := this.alloc (.cells #[.string ⟨#[]⟩, .string ⟨#[]⟩] 23 (0, 0))
    exact this
  have B1 : Blk W (w.heap.size + 1) 23 #[.string ⟨#[]⟩, .string ⟨#[]⟩] := by
    rw [hW]
    have := Blk.new (w.alloc (.cells #[.string n, .string d] 23 (0, 0))) 23 #[.string ⟨#[]⟩, .string ⟨#[]⟩]
    rwa [World.size_alloc] at this
  have hsz : W.heap.size = w.heap.size + 2 := by rw [hW]; simp
  rw [← hW]
  clear hW
  refine (rplaces_any n d p W hn hd (HT.out.below hbw)).mono ?_
  rintro e w1 ⟨rfl, hb1⟩
  have hbw := hbw.trans (hb1.mono hbw.size)
  have hs1 := hb1.size
  have B0 := B0.below hb1 B0.lt
  have B1 := B1.below hb1 B1.lt
  obtain ⟨f, hf⟩ : ∃ f, rndF (rx n d) p = f := ⟨_, rfl⟩
  have HF := Lib.hid hf
  rw [hf]
  clear hf hb1
  have rc0 : w1.cell? ⟨w.heap.size + 1, 0, none⟩ = some (.string ⟨#[]⟩) := B1.cell 0
  have rz0 : w1.frozen? ⟨w.heap.size + 1, 0, none⟩ = false := B1.frozen 0
  have rc1 : w1.cell? ⟨w.heap.size + 1, 1, none⟩ = some (.string ⟨#[]⟩) := B1.cell 1
  have rz1 : w1.frozen? ⟨w.heap.size + 1, 1, none⟩ = false := B1.frozen 1
  by_cases h0 : f = 0
  rotate_left
  · have hne : (((f : Nat) : Int) != 0) = true := by simp; omega
    have HE := Lib.hid (show outV (roundR (rx n d) p) = .tuple #[.agg #[.string ⟨#[]⟩, .string ⟨#[]⟩], .int .i64 (f : Nat)] by
      rw [roundR_no (by rw [HF.out]; exact h0), HF.out]; rfl)
    go_wp2
    obtain ⟨W9, hW9⟩ : ∃ W9, W9 = (w1.setCell ⟨w.heap.size + 1, 0, none⟩ (.string ⟨#[]⟩)).setCell ⟨w.heap.size + 1, 1, none⟩ (.string ⟨#[]⟩) := ⟨_, rfl⟩
    have B9 : Blk W9 (w.heap.size + 1) 23 #[.string ⟨#[]⟩, .string ⟨#[]⟩] := hW9 ▸ B1.store2 _ _
    have hbw9 : Below w.heap.size w W9 := hW9 ▸ hbw.store2 (by omega) _ _
    rw [← hW9]
    clear hW9
    have qc0 : W9.cell? ⟨w.heap.size + 1, 0, none⟩ = some (.string ⟨#[]⟩) := B9.cell 0
    have qc1 : W9.cell? ⟨w.heap.size + 1, 1, none⟩ = some (.string ⟨#[]⟩) := B9.cell 1
    refine bodyPost_ret (v := .tuple #[.agg #[.string ⟨#[]⟩, .string ⟨#[]⟩], .int .i64 ((f : Nat) : Int)]) (by simp [results, Tryz.results18, go_sem, qc0, qc1]) rfl ⟨ret_val (HE.out.symm), hbw9⟩
  subst h0
  obtain ⟨hp1, hp2⟩ := rnd_range HF.out
  have HE := Lib.hid (show roundR (rx n d) p = outR (rndQ (rx n d) p.toNat) from roundR_ok HF.out)
  have HFL := Lib.hid (rnd_flt HF.out)
  clear rc0 rz0 rc1 rz1
  have fc0 : w1.cell? ⟨w.heap.size, 0, none⟩ = some (.string n) := B0.cell 0
  have fc1 : w1.cell? ⟨w.heap.size, 1, none⟩ = some (.string d) := B0.cell 1
  go_wp2_with fail
  refine (rnearest_any n d p w1 HFL.out hp1 hp2).mono ?_
  rintro e w2 ⟨⟨bu, A1, n1, c1, A2, n2, c2, rfl, e1, g1⟩, hb2⟩
  have HG := Lib.hid g1
  have HE1 := Lib.hid e1
  have hbw := hbw.trans (hb2.mono hbw.size)
  have hs2 := hb2.size
  have B1 := B1.below hb2 B1.lt
  clear g1 e1 hb2 fc0 fc1 B0
  go_upto_region 5 with (fail)
  obtain ⟨W2, hW2⟩ : ∃ W2, W2 = w2.alloc (.cells #[.bool bu, .slice A1 n1 c1, .slice A2 n2 c2] 53 (0, 0)) := ⟨_, rfl⟩
  have hb2 : Below w2.heap.size w2 W2 := hW2 ▸ (Below.refl _ w2).alloc (Nat.le_refl _) _
  have B3 : Blk W2 w2.heap.size 53 #[.bool bu, .slice A1 n1 c1, .slice A2 n2 c2] := by
    rw [hW2]
    exact Blk.new w2 53 _
  rw [← hW2]
  clear hW2
  have HG := Lib.hid (HG.out.below hb2)
  have hbw := hbw.trans (hb2.mono hbw.size)
  have B1 := B1.below hb2 B1.lt
  clear hb2
  go_wp2_with fail
  refine (rpower_any p W2 hp1 hp2).mono ?_
  rintro e w3 ⟨⟨Ap, np, cp, rfl, hpw⟩, hb3⟩
  have HG := Lib.hid (HG.out.below hb3)
  have HP := Lib.hid hpw
  have B1 := B1.below hb3 B1.lt
  have B3 := B3.below hb3 B3.lt
  have hbw := hbw.trans (hb3.mono hbw.size)
  clear hb3 hpw
  have uc0 : w3.cell? ⟨w2.heap.size, 0, none⟩ = some (.bool bu) := B3.cell 0
  have uz0 : w3.frozen? ⟨w2.heap.size, 0, none⟩ = false := B3.frozen 0
  have uc1 : w3.cell? ⟨w2.heap.size, 1, none⟩ = some (.slice A1 n1 c1) := B3.cell 1
  have uz1 : w3.frozen? ⟨w2.heap.size, 1, none⟩ = false := B3.frozen 1
  have uc2 : w3.cell? ⟨w2.heap.size, 2, none⟩ = some (.slice A2 n2 c2) := B3.cell 2
  have uz2 : w3.frozen? ⟨w2.heap.size, 2, none⟩ = false := B3.frozen 2
  go_upto_region 6 with (fail)
  obtain ⟨W3, hW3⟩ : ∃ W3, W3 = w3.setCell ⟨w2.heap.size, 2, none⟩ (.slice Ap np cp) := ⟨_, rfl⟩
  have HG := Lib.hid (hW3 ▸ HG.out.box uc2 (.slice Ap np cp) : RepI W3 300 (.slice A1 n1 c1) _)
  have HP := Lib.hid (hW3 ▸ HP.out.box uc2 (.slice Ap np cp) : RepI W3 3 (.slice Ap np cp) _)
  have hlt : w.heap.size + 1 < w2.heap.size := by omega
  have B1 : Blk W3 (w.heap.size + 1) 23 #[.string ⟨#[]⟩, .string ⟨#[]⟩] := hW3 ▸ B1.far (p := ⟨w2.heap.size, 2, none⟩) (by show w.heap.size + 1 ≠ w2.heap.size; omega) _
  have B3 : Blk W3 w2.heap.size 53 #[.bool bu, .slice A1 n1 c1, .slice Ap np cp] := hW3 ▸ B3.set_ 2 _
  have hbw : Below w.heap.size w W3 := hW3 ▸ hbw.setCell (p := ⟨w2.heap.size, 2, none⟩) (by show w.heap.size ≤ w2.heap.size; omega) _
  rw [← hW3]
  clear hW3 uc0 uz0 uc1 uz1 uc2 uz2
  have uc0 : W3.cell? ⟨w2.heap.size, 0, none⟩ = some (.bool bu) := B3.cell 0
  have uc1 : W3.cell? ⟨w2.heap.size, 1, none⟩ = some (.slice A1 n1 c1) := B3.cell 1
  have uc2 : W3.cell? ⟨w2.heap.size, 2, none⟩ = some (.slice Ap np cp) := B3.cell 2
  go_wp2_with fail
  have hD : 0 < 10 ^ p.toNat := Nat.pow_pos (by omega)
  refine (shut_q W3 300 (scaleR (rx n d) p.toNat) (10 ^ p.toNat) _ bu (rndQ (rx n d) p.toNat) ⟨_, _, _, _, _, _, rfl, HG.out, HP.out.mono (by omega), hD⟩ (by unfold rndQ; rw [← HE1.out]) (by omega) (HT.out.below hbw)).mono ?_
  rintro e w4 ⟨⟨S1, S2, k, rfl, hout⟩, hb4⟩
  have HO := Lib.hid hout
  have hbw := hbw.trans (hb4.mono hbw.size)
  have B1 := B1.below hb4 B1.lt
  clear hout uc0 uc1 uc2 hD
  have rc0 : w4.cell? ⟨w.heap.size + 1, 0, none⟩ = some (.string ⟨#[]⟩) := B1.cell 0
  have rz0 : w4.frozen? ⟨w.heap.size + 1, 0, none⟩ = false := B1.frozen 0
  have rc1 : w4.cell? ⟨w.heap.size + 1, 1, none⟩ = some (.string ⟨#[]⟩) := B1.cell 1
  have rz1 : w4.frozen? ⟨w.heap.size + 1, 1, none⟩ = false := B1.frozen 1
  go_wp2
  obtain ⟨W9, hW9⟩ : ∃ W9, W9 = (w4.setCell ⟨w.heap.size + 1, 0, none⟩ (.string S1)).setCell ⟨w.heap.size + 1, 1, none⟩ (.string S2) := ⟨_, rfl⟩
  have B9 : Blk W9 (w.heap.size + 1) 23 #[.string S1, .string S2] := hW9 ▸ B1.store2 _ _
  have hbw9 : Below w.heap.size w W9 := hW9 ▸ hbw.store2 (by omega) _ _
  rw [← hW9]
  clear hW9
  have qc0 : W9.cell? ⟨w.heap.size + 1, 0, none⟩ = some (.string S1) := B9.cell 0
  have qc1 : W9.cell? ⟨w.heap.size + 1, 1, none⟩ = some (.string S2) := B9.cell 1
  refine bodyPost_ret (v := .tuple #[.agg #[.string S1, .string S2], .int .i64 k]) (by simp [results, Tryz.results18, go_sem, qc0, qc1]) rfl ⟨ret_val (by rw [HE.out, HO.out]), hbw9⟩

end Go.Proofs.YtmpelpmhbadjoaaGreatDoor
