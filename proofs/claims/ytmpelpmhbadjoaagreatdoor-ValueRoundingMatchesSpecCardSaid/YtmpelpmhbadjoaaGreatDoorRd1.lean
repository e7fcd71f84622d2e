/- The program's power10, scaled and Rounded. -/
import Derived.Test.YtmpelpmhbadjoaaGreatDoorRR5
import Derived.Test.YtmpelpmhbadjoaaGreatDoorRnd
namespace Go.Proofs.YtmpelpmhbadjoaaGreatDoor
open Go.RowKit Limb Dig Rtx

def outB (n lo hi : Int) : Bool := decide (n < lo) || decide (hi < n)
theorem outB_true {n lo hi : Int} (h : n < lo ∨ hi < n) : outB n lo hi = true := by simp [outB]; omega
theorem outB_false {n lo hi : Int} (h : lo ≤ n) (h' : n ≤ hi) : outB n lo hi = false := by simp [outB]; omega
theorem outside_any (a b c : Int) (w : World) :
    Calls Tryz.prog 70 #[.int .i64 a, .int .i64 b, .int .i64 c] w fun e w' => e = .returned (.bool (outB a b c)) ∧ w = w' := by
  by_cases h1 : a < b
  · have HR := Lib.hid (outB_true (.inl h1) : outB a b c = true)
    go_enter Tryz.func70, Tryz.ntmps70
    go_wp2
    go_ret
    exact ⟨ret_bool (by rw [HR.out]), rfl⟩
  · by_cases h2 : c < a
    · have HR := Lib.hid (outB_true (.inr h2) : outB a b c = true)
      go_enter Tryz.func70, Tryz.ntmps70
      go_wp2
      go_ret
      exact ⟨ret_bool (by rw [HR.out]), rfl⟩
    · have HR := Lib.hid (outB_false (by omega) (by omega) : outB a b c = false)
      go_enter Tryz.func70, Tryz.ntmps70
      go_wp2
      go_ret
      exact ⟨ret_bool (by rw [HR.out]), rfl⟩
theorem repeat0_i (n : Int) (w : World) (h1 : 0 ≤ n) (h2 : n ≤ 20) :
    Calls Tryz.prog 49 #[.string ⟨#[48]⟩, .int .i64 n] w fun e w' => (∃ t : ByteArray, e = .returned (.string t) ∧ t.data.toList = zeros n.toNat) ∧ Below w.heap.size w w' := by
  have h := repeat0_any n.toNat w (by omega)
  rw [show ((n.toNat : Nat) : Int) = n by omega] at h
  exact h.mono fun _ _ ⟨he, hb⟩ => ⟨⟨_, he, rfl⟩, hb⟩
theorem zeros_dig (k : Nat) : ∀ b ∈ zeros k, isDig b := fun b hb => by
  obtain rfl := List.eq_of_mem_replicate hb
  exact ⟨by decide, by decide⟩
theorem one_zeros {t : ByteArray} {k : Nat} (h : t.data.toList = zeros k) : ((⟨#[49]⟩ : ByteArray) ++ t).data.toList = 49 :: zeros k := by
  rw [ByteArray.data_append, Array.toList_append, h]; rfl
theorem one_zeros_dig {t : ByteArray} {k : Nat} (h : t.data.toList = zeros k) : ∀ b ∈ ((⟨#[49]⟩ : ByteArray) ++ t).data.toList, isDig b := by
  rw [one_zeros h]
  intro b hb
  rcases List.mem_cons.1 hb with rfl | hb
  · exact ⟨by decide, by decide⟩
  · exact zeros_dig k b hb
theorem one_zeros_size {t : ByteArray} {k : Nat} (h : t.data.toList = zeros k) : ((⟨#[49]⟩ : ByteArray) ++ t).size = k + 1 := by
  have : ((⟨#[49]⟩ : ByteArray) ++ t).data.toList.length = k + 1 := by rw [one_zeros h]; simp [zeros]
  exact this
theorem zeros_size {t : ByteArray} {k : Nat} (h : t.data.toList = zeros k) : t.size = k := by
  have : t.data.toList.length = k := by rw [h]; simp [zeros]
  exact this
set_option maxHeartbeats 1000000 in
theorem power10_any (n : Int) (w : World) (h1 : 0 ≤ n) (h2 : n ≤ 20) :
    Calls Tryz.prog 44 #[.int .i64 n] w fun e w' => (∃ A m c, e = .returned (.slice A m c) ∧ Rep w' 223 (.slice A m c) (10 ^ n.toNat)) ∧ Below w.heap.size w w' := by
  go_enter Tryz.func44, Tryz.ntmps44
  go_wp2_with fail
  refine (repeat0_i n w h1 h2).mono ?_
  rintro e w1 ⟨⟨t, rfl, ht⟩, hb⟩
  have hts : t.size ≤ 20 := by rw [zeros_size ht]; omega
  have HT := Lib.hid ht
  clear ht
  go_wp2_with fail
  refine (ofDigits_rep _ w1 (by rw [one_zeros_size HT.out]; omega) (one_zeros_dig HT.out)).mono ?_
  rintro e w2 ⟨⟨A, m, c, rfl, hv⟩, hb2⟩
  rw [one_zeros HT.out, digVal_one_zeros] at hv
  have HV := Lib.hid hv
  clear hv
  go_wp2
  go_ret
  exact ⟨⟨_, _, _, rfl, HV.out⟩, hb.trans (hb2.mono hb.size)⟩
theorem small_two (w : World) (n : Nat) (h : n ≤ 2) :
    Calls Tryz.prog 23 #[.int .u64 (n : Nat)] w fun e w' => (∃ A m c, e = .returned (.slice A m c) ∧ Rep w' 3 (.slice A m c) n) ∧ Below w.heap.size w w' :=
  (small_any n w (by omega)).mono fun _ _ ⟨h, hb⟩ => ⟨sl_form h, hb⟩
/-- what scaled hands back -/
structure ScV (w : World) (b : Bool) (v : Value) (a : R) (n : Int) : Prop where
  ok : rndF a n = 0 → b = negS a n.toNat ∧ Rep w 700 v (scaleR a n.toNat)
theorem ScV.below {w w' : World} {b : Bool} {v : Value} {a : R} {n : Int} (h : ScV w b v a n) (hb : Below w.heap.size w w') : ScV w' b v a n :=
  ⟨fun h0 => ⟨(h.ok h0).1, (h.ok h0).2.below hb⟩⟩
theorem over_form {e : Ending} {w : World} {L x y : Nat} (h : ∃ q r, e = .returned (.tuple #[q, r]) ∧ Rep w L q x ∧ Rep w L r y) : ∃ A n c A' n' c', e = .returned (.tuple #[.slice A n c, .slice A' n' c']) ∧ Rep w L (.slice A n c) x ∧ (0 < n ↔ 0 < x) := by
  obtain ⟨q, r, he, hq, hr⟩ := h
  obtain ⟨A, n, c, rfl, h1, -⟩ := hq.form
  obtain ⟨A', n', c', rfl, -⟩ := hr.form
  exact ⟨A, n, c, A', n', c', he, hq, h1⟩
set_option maxHeartbeats 4000000 in
set_option maxRecDepth 100000 in
theorem scaled_any (n d : ByteArray) (p : Int) (w : World) (hn : n.size ≤ maxLen) (hd : d.size ≤ maxLen) :
    Calls Tryz.prog 43 #[.agg #[.string n, .string d], .int .i64 p] w fun e w' => (∃ b A1 n1 c1 A2 n2 c2, e = .returned (.tuple #[.agg #[.bool b, .slice A1 n1 c1, .slice A2 n2 c2], .int .i64 (rndF (rx n d) p : Nat)]) ∧ ScV w' b (.slice A1 n1 c1) (rx n d) p) ∧ Below w.heap.size w w' := by
  go_enter Tryz.func43, Tryz.ntmps43
  go_wp2_with fail
  obtain ⟨W, hW⟩ : ∃ W, W = ((w.alloc (.cells #[.string n, .string d] 23 (0, 0))).alloc (.cells #[.bool false, .slice none 0 0, .slice none 0 0] 47 (0, 0))) := ⟨_, rfl⟩
  have hbw : Below w.heap.size w W := by rw [hW]; exact (((Below.refl _ w).alloc (Nat.le_refl _) _).alloc (by simp) _)
  have B0 : Blk W (w.heap.size) 23 #[.string n, .string d] := by
    rw [hW]
    have := Blk.new w 23 #[.string n, .string d]
    have := this.alloc (.cells #[.bool false, .slice none 0 0, .slice none 0 0] 47 (0, 0))
    exact this
  have B1 : Blk W (w.heap.size + 1) 47 #[.bool false, .slice none 0 0, .slice none 0 0] := by
    rw [hW]
    have := Blk.new (w.alloc (.cells #[.string n, .string d] 23 (0, 0))) 47 #[.bool false, .slice none 0 0, .slice none 0 0]
    rwa [World.size_alloc] at this
  have hsz : W.heap.size = w.heap.size + 2 := by rw [hW]; simp
  rw [← hW]
  clear hW
  refine (fractionOf_any n d W hn hd).mono ?_
  rintro e w1 ⟨⟨u, rfl, hu⟩, hb1⟩
  obtain ⟨bu, A1, n1, c1, A2, n2, c2, rfl⟩ := hu.form
  have HU := Lib.hid hu
  clear hu
  have hbw := hbw.trans (hb1.mono hbw.size)
  have hs1 := hb1.size
  have B1 := B1.below hb1 B1.lt
  obtain ⟨f, hf⟩ : ∃ f, fltR (rx n d) = f := ⟨_, rfl⟩
  have HF := Lib.hid hf
  rw [hf]
  clear hf hb1
  go_upto_region 2 with (fail)
  obtain ⟨W2, hW2⟩ : ∃ W2, W2 = w1.alloc (.cells #[.bool bu, .slice A1 n1 c1, .slice A2 n2 c2] 47 (0, 0)) := ⟨_, rfl⟩
  have hb2 : Below w1.heap.size w1 W2 := hW2 ▸ (Below.refl _ w1).alloc (Nat.le_refl _) _
  have B3 : Blk W2 w1.heap.size 47 #[.bool bu, .slice A1 n1 c1, .slice A2 n2 c2] := by
    rw [hW2]
    exact Blk.new w1 47 #[.bool bu, .slice A1 n1 c1, .slice A2 n2 c2]
  rw [← hW2]
  clear hW2
  have hbw := hbw.trans (hb2.mono hbw.size)
  have B1 := B1.below hb2 B1.lt
  have rc0 : W2.cell? ⟨w.heap.size + 1, 0, none⟩ = some (.bool false) := B1.cell 0
  have rz0 : W2.frozen? ⟨w.heap.size + 1, 0, none⟩ = false := B1.frozen 0
  have rc1 : W2.cell? ⟨w.heap.size + 1, 1, none⟩ = some (.slice none 0 0) := B1.cell 1
  have rz1 : W2.frozen? ⟨w.heap.size + 1, 1, none⟩ = false := B1.frozen 1
  have rc2 : W2.cell? ⟨w.heap.size + 1, 2, none⟩ = some (.slice none 0 0) := B1.cell 2
  have rz2 : W2.frozen? ⟨w.heap.size + 1, 2, none⟩ = false := B1.frozen 2
  have uc0 : W2.cell? ⟨w1.heap.size, 0, none⟩ = some (.bool bu) := B3.cell 0
  have uc1 : W2.cell? ⟨w1.heap.size, 1, none⟩ = some (.slice A1 n1 c1) := B3.cell 1
  have uc2 : W2.cell? ⟨w1.heap.size, 2, none⟩ = some (.slice A2 n2 c2) := B3.cell 2
  by_cases h0 : f = 0
  rotate_left
  · have hne : (((f : Nat) : Int) != 0) = true := by simp; omega
    have HE := Lib.hid (show rndF (rx n d) p = f by rw [rndF_flt (by rw [HF.out]; exact h0), HF.out])
    go_wp2
    obtain ⟨W9, hW9⟩ : ∃ W9, W9 = ((W2.setCell ⟨w.heap.size + 1, 0, none⟩ (.bool bu)).setCell ⟨w.heap.size + 1, 1, none⟩ (.slice A1 n1 c1)).setCell ⟨w.heap.size + 1, 2, none⟩ (.slice A2 n2 c2) := ⟨_, rfl⟩
    have B9 : Blk W9 (w.heap.size + 1) 47 #[.bool bu, .slice A1 n1 c1, .slice A2 n2 c2] := hW9 ▸ B1.store3 _ _ _
    have hbw9 : Below w.heap.size w W9 := hW9 ▸ hbw.store3 (by omega) _ _ _
    rw [← hW9]
    clear hW9
    have qc0 : W9.cell? ⟨w.heap.size + 1, 0, none⟩ = some (.bool bu) := B9.cell 0
    have qc1 : W9.cell? ⟨w.heap.size + 1, 1, none⟩ = some (.slice A1 n1 c1) := B9.cell 1
    have qc2 : W9.cell? ⟨w.heap.size + 1, 2, none⟩ = some (.slice A2 n2 c2) := B9.cell 2
    refine bodyPost_ret (v := .tuple #[.agg #[.bool bu, .slice A1 n1 c1, .slice A2 n2 c2], .int .i64 ((f : Nat) : Int)]) (by simp [results, Tryz.results43, go_sem, qc0, qc1, qc2]) rfl ⟨⟨_, _, _, _, _, _, _, ret_val (by first | (rw [HE.out]; done) | (rw [HE.out]; rfl)), ⟨fun h => absurd (HE.out.symm.trans h) (by first | exact h0 | decide)⟩⟩, hbw9⟩
  subst h0
  by_cases hp : p < 0 ∨ 20 < p
  · have HO := Lib.hid (outB_true hp)
    have HE := Lib.hid (show rndF (rx n d) p = 1 from rndF_out HF.out hp)
    clear hp
    go_wp2_with fail
    refine (outside_any p 0 20 W2).mono ?_
    rw [HO.out]
    rintro e w3 ⟨rfl, rfl⟩
    go_wp2
    obtain ⟨W9, hW9⟩ : ∃ W9, W9 = ((W2.setCell ⟨w.heap.size + 1, 0, none⟩ (.bool bu)).setCell ⟨w.heap.size + 1, 1, none⟩ (.slice A1 n1 c1)).setCell ⟨w.heap.size + 1, 2, none⟩ (.slice A2 n2 c2) := ⟨_, rfl⟩
    have B9 : Blk W9 (w.heap.size + 1) 47 #[.bool bu, .slice A1 n1 c1, .slice A2 n2 c2] := hW9 ▸ B1.store3 _ _ _
    have hbw9 : Below w.heap.size w W9 := hW9 ▸ hbw.store3 (by omega) _ _ _
    rw [← hW9]
    clear hW9
    have qc0 : W9.cell? ⟨w.heap.size + 1, 0, none⟩ = some (.bool bu) := B9.cell 0
    have qc1 : W9.cell? ⟨w.heap.size + 1, 1, none⟩ = some (.slice A1 n1 c1) := B9.cell 1
    have qc2 : W9.cell? ⟨w.heap.size + 1, 2, none⟩ = some (.slice A2 n2 c2) := B9.cell 2
    refine bodyPost_ret (v := .tuple #[.agg #[.bool bu, .slice A1 n1 c1, .slice A2 n2 c2], .int .i64 1]) (by simp [results, Tryz.results43, go_sem, qc0, qc1, qc2]) rfl ⟨⟨_, _, _, _, _, _, _, ret_val (by first | (rw [HE.out]; done) | (rw [HE.out]; rfl)), ⟨fun h => absurd (HE.out.symm.trans h) (by first | exact h0 | decide)⟩⟩, hbw9⟩
  have hp1 : 0 ≤ p := by omega
  have hp2 : p ≤ 20 := by omega
  have HO := Lib.hid (outB_false hp1 hp2)
  have HE := Lib.hid (show rndF (rx n d) p = 0 from rndF_in HF.out hp1 hp2)
  clear hp
  go_wp2_with fail
  refine (outside_any p 0 20 W2).mono ?_
  rw [HO.out]
  rintro e w3 ⟨rfl, rfl⟩
  obtain ⟨x1, hx1⟩ : ∃ x, digVal (cutN (rx n d).n).1 = x := ⟨_, rfl⟩
  obtain ⟨y1, hy1⟩ : ∃ x, digVal (rx n d).d = x := ⟨_, rfl⟩
  obtain ⟨e1, g1, g2, g3⟩ := ((HU.out.below hb2).ok HF.out).parts
  rw [hx1] at g1
  rw [hy1] at g2 g3
  obtain ⟨D, hD⟩ : ∃ D, 10 ^ p.toNat = D := ⟨_, rfl⟩
  have HS := Lib.hid (show scaleR (rx n d) p.toNat = (x1 * D * 2 + y1) / (y1 * 2) by
    unfold scaleR rndN numR denR
    rw [hx1, hy1, hD])
  have HN := Lib.hid (show negS (rx n d) p.toNat = (bu && decide (0 < (x1 * D * 2 + y1) / (y1 * 2))) by
    unfold negS
    rw [HS.out, show negR (rx n d) = bu from e1.symm])
  have HG1 := Lib.hid g1
  have HG2 := Lib.hid g2
  have HDD := Lib.hid hD
  clear g1 g2 e1 hx1 hy1 hD hb2 HU
  have hq0 : Below W2.heap.size W2 W2.drew := (Below.refl _ _).drew
  go_upto_region 6 with (fail)
  go_region_held3 (fun w' => w'.cell? ⟨w1.heap.size, 1, none⟩ = some (.slice A1 n1 c1) ∧ w'.cell? ⟨w1.heap.size, 2, none⟩ = some (.slice A2 n2 c2) ∧ Below W2.heap.size W2 w')
    (first | exact ⟨Below.cell_of hq5 uc1, Below.cell_of hq5 uc2, hq5⟩ | exact ⟨Below.cell_of hq4 uc1, Below.cell_of hq4 uc2, hq4⟩ | exact ⟨Below.cell_of hq3 uc1, Below.cell_of hq3 uc2, hq3⟩ | exact ⟨Below.cell_of hq2 uc1, Below.cell_of hq2 uc2, hq2⟩ | exact ⟨Below.cell_of hq1 uc1, Below.cell_of hq1 uc2, hq1⟩ | exact ⟨Below.cell_of hq0 uc1, Below.cell_of hq0 uc2, hq0⟩)
    (first
      | (go_at_call 44; refine (power10_any p _ hp1 hp2).mono ?_; rintro e w' ⟨⟨Ap, np, cp, rfl, hp⟩, hb4⟩; have hq1 := hq0.trans (hb4.mono hq0.size); rw [HDD.out] at hp)
      | (go_at_call 42; (with_reducible refine (times_rep _ 223 223 (.slice A1 n1 c1) _ x1 D (HG1.out.below hq1) hp (by omega) (by omega)).mono ?_); rintro e w' ⟨hv, hb5⟩; obtain ⟨At, nt, ct, rfl, ht⟩ := sl_form hv; have hq2 := hq1.trans (hb5.mono hq1.size))
      | (go_at_call 23; refine (small_two _ 2 (by omega)).mono ?_; rintro e w' ⟨⟨A2', n2', c2', rfl, h2'⟩, hb6⟩; have hq3 := hq2.trans (hb6.mono hq2.size))
      | (go_at_call 42; (with_reducible refine (times_rep _ 446 3 (.slice At nt ct) _ (x1 * D) 2 (ht.below hb6) h2' (by omega) (by omega)).mono ?_); rintro e w' ⟨hv2, hb7⟩; obtain ⟨Au, nu, cu, rfl, hu⟩ := sl_form hv2; have hq4 := hq3.trans (hb7.mono hq3.size))
      | (go_at_call 66; refine (plus_rep _ 449 223 _ _ (x1 * D * 2) y1 hu (HG2.out.below hq4) (by omega) (by omega)).mono ?_; rintro e W3 ⟨hv3, hb8⟩; obtain ⟨Av, nv, cv, rfl, hv⟩ := sl_form hv3; have hq5 := hq4.trans (hb8.mono hq4.size)))
  have HV := Lib.hid hv
  clear hv hv2 hv3 hu ht hp h2'
  have B1 := B1.below hq5 B1.lt
  have B3 := B3.below hq5 B3.lt
  have HG2 := Lib.hid (HG2.out.below hq5)
  have hbw := hbw.trans (hq5.mono hbw.size)
  clear hq0 hq1 hq2 hq3 hq4 hq5 hb4 hb5 hb6 hb7 hb8 HG1 rc0 rz0 rc1 rz1 rc2 rz2 uc0 uc1 uc2
  have uc0 : W3.cell? ⟨w1.heap.size, 0, none⟩ = some (.bool bu) := B3.cell 0
  have uc1 : W3.cell? ⟨w1.heap.size, 1, none⟩ = some (.slice A1 n1 c1) := B3.cell 1
  have uc2 : W3.cell? ⟨w1.heap.size, 2, none⟩ = some (.slice A2 n2 c2) := B3.cell 2
  obtain ⟨M, hM⟩ : ∃ M, x1 * D * 2 + y1 = M := ⟨_, rfl⟩
  rw [hM] at HV HS HN
  clear hM
  have hq0 : Below W3.heap.size W3 W3.drew := (Below.refl _ _).drew
  have hy2 : 0 < y1 * 2 := by omega
  go_upto_region 7 with (fail)
  go_region_held3 (fun w' => w'.cell? ⟨w1.heap.size, 2, none⟩ = some (.slice A2 n2 c2) ∧ Below W3.heap.size W3 w')
    (first | exact ⟨Below.cell_of hq3 uc2, hq3⟩ | exact ⟨Below.cell_of hq2 uc2, hq2⟩ | exact ⟨Below.cell_of hq1 uc2, hq1⟩ | exact ⟨Below.cell_of hq0 uc2, hq0⟩)
    (first
      | (go_at_call 23; refine (small_two _ 2 (by omega)).mono ?_; rintro e w' ⟨⟨A2', n2', c2', rfl, h2'⟩, hb6⟩; have hq1 := hq0.trans (hb6.mono hq0.size))
      | (go_at_call 42; refine (times_rep _ 223 3 (.slice A2 n2 c2) _ y1 2 (HG2.out.below hq1) h2' (by omega) (by omega)).mono ?_; rintro e w' ⟨hv2, hb7⟩; obtain ⟨Au, nu, cu, rfl, hu⟩ := sl_form hv2; have hq2 := hq1.trans (hb7.mono hq1.size))
      | (go_at_call 71; refine (over_rep _ 450 226 _ _ M (y1 * 2) (HV.out.below hq2) hu (by omega) (by omega) hy2).mono ?_; rintro e w' ⟨hv3, hb8⟩; obtain ⟨Aq, nq, cq, Ar, nr, cr, rfl, hqq, hpos⟩ := over_form hv3; have hq3 := hq2.trans (hb8.mono hq2.size)))
  have HQ := Lib.hid hqq
  have HPO := Lib.hid hpos
  clear hqq hpos hv2 hv3 hu h2'
  have B1 := B1.below hq3 B1.lt
  have B3 := B3.below hq3 B3.lt
  have hbw := hbw.trans (hq3.mono hbw.size)
  clear hq0 hq1 hq2 hq3 hb6 hb7 hb8 HG2 HV uc0 uc1 uc2
  have uc0 : w'.cell? ⟨w1.heap.size, 0, none⟩ = some (.bool bu) := B3.cell 0
  have uc1 : w'.cell? ⟨w1.heap.size, 1, none⟩ = some (.slice A1 n1 c1) := B3.cell 1
  have uc2 : w'.cell? ⟨w1.heap.size, 2, none⟩ = some (.slice A2 n2 c2) := B3.cell 2
  obtain ⟨bq, hbq⟩ : ∃ bq, (bu && decide (0 < nq)) = bq := ⟨_, rfl⟩
  have HNQ := Lib.hid (show negS (rx n d) p.toNat = bq by
    rw [HN.out, ← hbq]
    congr 1
    rw [decide_eq_decide]
    exact HPO.out.symm)
  have HBQ := Lib.hid hbq
  clear hbq HN
  by_cases hz : nq = 0
  · have hz2 : decide (0 < nq) = false := by simp; omega
    have HB2 := Lib.hid (show bq = false by rw [← HBQ.out, hz2]; simp)
    rw [HB2.out] at HNQ
    clear HBQ
    subst hz
    cases bu
    all_goals
      go_wp2_with fail
      refine (small_two _ 1 (by omega)).mono ?_
      rintro e w4 ⟨⟨As, ns, cs, rfl, -⟩, hb4⟩
      have HQ := Lib.hid (HQ.out.below hb4)
      have B1 := B1.below hb4 B1.lt
      have hbw := hbw.trans (hb4.mono hbw.size)
      clear hb4
      have rc0 : w4.cell? ⟨w.heap.size + 1, 0, none⟩ = some (.bool false) := B1.cell 0
      have rz0 : w4.frozen? ⟨w.heap.size + 1, 0, none⟩ = false := B1.frozen 0
      have rc1 : w4.cell? ⟨w.heap.size + 1, 1, none⟩ = some (.slice none 0 0) := B1.cell 1
      have rz1 : w4.frozen? ⟨w.heap.size + 1, 1, none⟩ = false := B1.frozen 1
      have rc2 : w4.cell? ⟨w.heap.size + 1, 2, none⟩ = some (.slice none 0 0) := B1.cell 2
      have rz2 : w4.frozen? ⟨w.heap.size + 1, 2, none⟩ = false := B1.frozen 2
      go_wp2
      obtain ⟨W9, hW9⟩ : ∃ W9, W9 = ((w4.setCell ⟨w.heap.size + 1, 0, none⟩ (.bool false)).setCell ⟨w.heap.size + 1, 1, none⟩ (.slice Aq 0 cq)).setCell ⟨w.heap.size + 1, 2, none⟩ (.slice As ns cs) := ⟨_, rfl⟩
      have B9 : Blk W9 (w.heap.size + 1) 47 #[.bool false, .slice Aq 0 cq, .slice As ns cs] := hW9 ▸ B1.store3 _ _ _
      have hbw9 : Below w.heap.size w W9 := hW9 ▸ hbw.store3 (by omega) _ _ _
      have HSV := Lib.hid (ScV.mk (w := W9) (a := rx n d) (n := p) (b := false) (v := .slice Aq 0 cq) (fun _ => ⟨HNQ.out.symm, by rw [HS.out]; rw [hW9]; exact (((HQ.out.box rc0 _).box ((B1.set_ 0 _).cell 1) _).box (((B1.set_ 0 _).set_ 1 _).cell 2) _).mono (by omega)⟩))
      rw [← hW9]
      clear hW9
      have qc0 : W9.cell? ⟨w.heap.size + 1, 0, none⟩ = some (.bool false) := B9.cell 0
      have qc1 : W9.cell? ⟨w.heap.size + 1, 1, none⟩ = some (.slice Aq 0 cq) := B9.cell 1
      have qc2 : W9.cell? ⟨w.heap.size + 1, 2, none⟩ = some (.slice As ns cs) := B9.cell 2
      refine bodyPost_ret (v := .tuple #[.agg #[.bool false, .slice Aq 0 cq, .slice As ns cs], .int .i64 0]) (by simp [results, Tryz.results43, go_sem, qc0, qc1, qc2]) rfl ⟨⟨_, _, _, _, _, _, _, ret_val (by first | (rw [HE.out]; done) | (rw [HE.out]; rfl)), HSV.out⟩, hbw9⟩
  have hz2 : decide (0 < nq) = true := by simp; omega
  have HB2 := Lib.hid (show bq = bu by rw [← HBQ.out, hz2]; simp)
  rw [HB2.out] at HNQ
  cases bu
  · go_wp2_with fail
    refine (small_two _ 1 (by omega)).mono ?_
    rintro e w4 ⟨⟨As, ns, cs, rfl, -⟩, hb4⟩
    have HQ := Lib.hid (HQ.out.below hb4)
    have B1 := B1.below hb4 B1.lt
    have hbw := hbw.trans (hb4.mono hbw.size)
    clear hb4
    have rc0 : w4.cell? ⟨w.heap.size + 1, 0, none⟩ = some (.bool false) := B1.cell 0
    have rz0 : w4.frozen? ⟨w.heap.size + 1, 0, none⟩ = false := B1.frozen 0
    have rc1 : w4.cell? ⟨w.heap.size + 1, 1, none⟩ = some (.slice none 0 0) := B1.cell 1
    have rz1 : w4.frozen? ⟨w.heap.size + 1, 1, none⟩ = false := B1.frozen 1
    have rc2 : w4.cell? ⟨w.heap.size + 1, 2, none⟩ = some (.slice none 0 0) := B1.cell 2
    have rz2 : w4.frozen? ⟨w.heap.size + 1, 2, none⟩ = false := B1.frozen 2
    go_wp2
    obtain ⟨W9, hW9⟩ : ∃ W9, W9 = ((w4.setCell ⟨w.heap.size + 1, 0, none⟩ (.bool false)).setCell ⟨w.heap.size + 1, 1, none⟩ (.slice Aq nq cq)).setCell ⟨w.heap.size + 1, 2, none⟩ (.slice As ns cs) := ⟨_, rfl⟩
    have B9 : Blk W9 (w.heap.size + 1) 47 #[.bool false, .slice Aq nq cq, .slice As ns cs] := hW9 ▸ B1.store3 _ _ _
    have hbw9 : Below w.heap.size w W9 := hW9 ▸ hbw.store3 (by omega) _ _ _
    have HSV := Lib.hid (ScV.mk (w := W9) (a := rx n d) (n := p) (b := false) (v := .slice Aq nq cq) (fun _ => ⟨HNQ.out.symm, by rw [HS.out]; rw [hW9]; exact (((HQ.out.box rc0 _).box ((B1.set_ 0 _).cell 1) _).box (((B1.set_ 0 _).set_ 1 _).cell 2) _).mono (by omega)⟩))
    rw [← hW9]
    clear hW9
    have qc0 : W9.cell? ⟨w.heap.size + 1, 0, none⟩ = some (.bool false) := B9.cell 0
    have qc1 : W9.cell? ⟨w.heap.size + 1, 1, none⟩ = some (.slice Aq nq cq) := B9.cell 1
    have qc2 : W9.cell? ⟨w.heap.size + 1, 2, none⟩ = some (.slice As ns cs) := B9.cell 2
    refine bodyPost_ret (v := .tuple #[.agg #[.bool false, .slice Aq nq cq, .slice As ns cs], .int .i64 0]) (by simp [results, Tryz.results43, go_sem, qc0, qc1, qc2]) rfl ⟨⟨_, _, _, _, _, _, _, ret_val (by first | (rw [HE.out]; done) | (rw [HE.out]; rfl)), HSV.out⟩, hbw9⟩
  · go_wp2_with fail
    refine (small_two _ 1 (by omega)).mono ?_
    rintro e w4 ⟨⟨As, ns, cs, rfl, -⟩, hb4⟩
    have HQ := Lib.hid (HQ.out.below hb4)
    have B1 := B1.below hb4 B1.lt
    have hbw := hbw.trans (hb4.mono hbw.size)
    clear hb4
    have rc0 : w4.cell? ⟨w.heap.size + 1, 0, none⟩ = some (.bool false) := B1.cell 0
    have rz0 : w4.frozen? ⟨w.heap.size + 1, 0, none⟩ = false := B1.frozen 0
    have rc1 : w4.cell? ⟨w.heap.size + 1, 1, none⟩ = some (.slice none 0 0) := B1.cell 1
    have rz1 : w4.frozen? ⟨w.heap.size + 1, 1, none⟩ = false := B1.frozen 1
    have rc2 : w4.cell? ⟨w.heap.size + 1, 2, none⟩ = some (.slice none 0 0) := B1.cell 2
    have rz2 : w4.frozen? ⟨w.heap.size + 1, 2, none⟩ = false := B1.frozen 2
    go_wp2
    obtain ⟨W9, hW9⟩ : ∃ W9, W9 = ((w4.setCell ⟨w.heap.size + 1, 0, none⟩ (.bool true)).setCell ⟨w.heap.size + 1, 1, none⟩ (.slice Aq nq cq)).setCell ⟨w.heap.size + 1, 2, none⟩ (.slice As ns cs) := ⟨_, rfl⟩
    have B9 : Blk W9 (w.heap.size + 1) 47 #[.bool true, .slice Aq nq cq, .slice As ns cs] := hW9 ▸ B1.store3 _ _ _
    have hbw9 : Below w.heap.size w W9 := hW9 ▸ hbw.store3 (by omega) _ _ _
    have HSV := Lib.hid (ScV.mk (w := W9) (a := rx n d) (n := p) (b := true) (v := .slice Aq nq cq) (fun _ => ⟨HNQ.out.symm, by rw [HS.out]; rw [hW9]; exact (((HQ.out.box rc0 _).box ((B1.set_ 0 _).cell 1) _).box (((B1.set_ 0 _).set_ 1 _).cell 2) _).mono (by omega)⟩))
    rw [← hW9]
    clear hW9
    have qc0 : W9.cell? ⟨w.heap.size + 1, 0, none⟩ = some (.bool true) := B9.cell 0
    have qc1 : W9.cell? ⟨w.heap.size + 1, 1, none⟩ = some (.slice Aq nq cq) := B9.cell 1
    have qc2 : W9.cell? ⟨w.heap.size + 1, 2, none⟩ = some (.slice As ns cs) := B9.cell 2
    refine bodyPost_ret (v := .tuple #[.agg #[.bool true, .slice Aq nq cq, .slice As ns cs], .int .i64 0]) (by simp [results, Tryz.results43, go_sem, qc0, qc1, qc2]) rfl ⟨⟨_, _, _, _, _, _, _, ret_val (by first | (rw [HE.out]; done) | (rw [HE.out]; rfl)), HSV.out⟩, hbw9⟩
theorem rnd_range {a : R} {p : Int} (h : rndF a p = 0) : 0 ≤ p ∧ p ≤ 20 := by
  by_cases h0 : fltR a = 0
  · by_cases hp : p < 0 ∨ 20 < p
    · rw [rndF_out h0 hp] at h; cases h
    · omega
  · rw [rndF_flt h0] at h; exact absurd h h0
theorem rnd_flt {a : R} {p : Int} (h : rndF a p = 0) : fltR a = 0 := Classical.byContradiction fun h0 => by
  rw [rndF_flt h0] at h; exact h0 h
set_option maxHeartbeats 2000000 in
set_option maxRecDepth 100000 in
theorem Rounded_any (n d : ByteArray) (p : Int) (w : World) (hn : n.size ≤ maxLen) (hd : d.size ≤ maxLen) (htab : Tab w) :
    Calls Tryz.prog 17 #[.agg #[.string n, .string d], .int .i64 p] w fun e w' => e = .returned (outV (roundR (rx n d) p)) ∧ Below w.heap.size w w' := by
  have HT := Lib.hid htab
  clear htab
  go_enter Tryz.func17, Tryz.ntmps17
  go_wp2_with fail
  obtain ⟨W, hW⟩ : ∃ W, W = ((w.alloc (.cells #[.string n, .string d] 23 (0, 0))).alloc (.cells #[.string ⟨#[]⟩, .string ⟨#[]⟩] 23 (0, 0))) := ⟨_, rfl⟩
  have hbw : Below w.heap.size w W := by rw [hW]; exact (((Below.refl _ w).alloc (Nat.le_refl _) _).alloc (by simp) _)
  have B0 : Blk W (w.heap.size) 23 #[.string n, .string d] := by
    rw [hW]
    have := Blk.new w 23 #[.string n, .string d]
    have := this.alloc (.cells #[.string ⟨#[]⟩, .string ⟨#[]⟩] 23 (0, 0))
    exact this
  have B1 : Blk W (w.heap.size + 1) 23 #[.string ⟨#[]⟩, .string ⟨#[]⟩] := by
    rw [hW]
    have := Blk.new (w.alloc (.cells #[.string n, .string d] 23 (0, 0))) 23 #[.string ⟨#[]⟩, .string ⟨#[]⟩]
    rwa [World.size_alloc] at this
  have hsz : W.heap.size = w.heap.size + 2 := by rw [hW]; simp
  rw [← hW]
  clear hW
  refine (scaled_any n d p W hn hd).mono ?_
  rintro e w1 ⟨⟨bu, A1, n1, c1, A2, n2, c2, rfl, hu⟩, hb1⟩
  have HU := Lib.hid hu
  clear hu
  have hbw := hbw.trans (hb1.mono hbw.size)
  have hs1 := hb1.size
  have B1 := B1.below hb1 B1.lt
  obtain ⟨f, hf⟩ : ∃ f, rndF (rx n d) p = f := ⟨_, rfl⟩
  have HF := Lib.hid hf
  rw [hf]
  clear hf hb1
  go_upto_region 2 with (fail)
  obtain ⟨W2, hW2⟩ : ∃ W2, W2 = w1.alloc (.cells #[.bool bu, .slice A1 n1 c1, .slice A2 n2 c2] 47 (0, 0)) := ⟨_, rfl⟩
  have hb2 : Below w1.heap.size w1 W2 := hW2 ▸ (Below.refl _ w1).alloc (Nat.le_refl _) _
  have B3 : Blk W2 w1.heap.size 47 #[.bool bu, .slice A1 n1 c1, .slice A2 n2 c2] := by
    rw [hW2]
    exact Blk.new w1 47 #[.bool bu, .slice A1 n1 c1, .slice A2 n2 c2]
  rw [← hW2]
  clear hW2
  have hbw := hbw.trans (hb2.mono hbw.size)
  have B1 := B1.below hb2 B1.lt
  have rc0 : W2.cell? ⟨w.heap.size + 1, 0, none⟩ = some (.string ⟨#[]⟩) := B1.cell 0
  have rz0 : W2.frozen? ⟨w.heap.size + 1, 0, none⟩ = false := B1.frozen 0
  have rc1 : W2.cell? ⟨w.heap.size + 1, 1, none⟩ = some (.string ⟨#[]⟩) := B1.cell 1
  have rz1 : W2.frozen? ⟨w.heap.size + 1, 1, none⟩ = false := B1.frozen 1
  by_cases h0 : f = 0
  rotate_left
  · have hne : (((f : Nat) : Int) != 0) = true := by simp; omega
    have HE := Lib.hid (show outV (roundR (rx n d) p) = .tuple #[.agg #[.string ⟨#[]⟩, .string ⟨#[]⟩], .int .i64 (f : Nat)] by
      rw [roundR_no (by rw [HF.out]; exact h0), HF.out]; rfl)
    go_wp2
    obtain ⟨W9, hW9⟩ : ∃ W9, W9 = (W2.setCell ⟨w.heap.size + 1, 0, none⟩ (.string ⟨#[]⟩)).setCell ⟨w.heap.size + 1, 1, none⟩ (.string ⟨#[]⟩) := ⟨_, rfl⟩
    have B9 : Blk W9 (w.heap.size + 1) 23 #[.string ⟨#[]⟩, .string ⟨#[]⟩] := hW9 ▸ B1.store2 _ _
    have hbw9 : Below w.heap.size w W9 := hW9 ▸ hbw.store2 (by omega) _ _
    rw [← hW9]
    clear hW9
    have qc0 : W9.cell? ⟨w.heap.size + 1, 0, none⟩ = some (.string ⟨#[]⟩) := B9.cell 0
    have qc1 : W9.cell? ⟨w.heap.size + 1, 1, none⟩ = some (.string ⟨#[]⟩) := B9.cell 1
    refine bodyPost_ret (v := .tuple #[.agg #[.string ⟨#[]⟩, .string ⟨#[]⟩], .int .i64 ((f : Nat) : Int)]) (by simp [results, Tryz.results17, go_sem, qc0, qc1]) rfl ⟨ret_val (HE.out.symm), hbw9⟩
  subst h0
  obtain ⟨e1, g1⟩ := (HU.out.below hb2).ok HF.out
  have HG := Lib.hid g1
  have HE1 := Lib.hid e1
  have hp := rnd_range HF.out
  obtain ⟨hp1, hp2⟩ := hp
  have HE := Lib.hid (show roundR (rx n d) p = outR (rndQ (rx n d) p.toNat) from roundR_ok HF.out)
  clear g1 e1 hb2 HU rc0 rz0 rc1 rz1
  go_wp2_with fail
  refine (power10_any p W2 hp1 hp2).mono ?_
  rintro e w3 ⟨⟨Ap, np, cp, rfl, hpw⟩, hb3⟩
  have HG := Lib.hid (HG.out.below hb3)
  have HP := Lib.hid hpw
  have B1 := B1.below hb3 B1.lt
  have B3 := B3.below hb3 B3.lt
  have hbw := hbw.trans (hb3.mono hbw.size)
  clear hb3 hpw
  have uc0 : w3.cell? ⟨w1.heap.size, 0, none⟩ = some (.bool bu) := B3.cell 0
  have uz0 : w3.frozen? ⟨w1.heap.size, 0, none⟩ = false := B3.frozen 0
  have uc1 : w3.cell? ⟨w1.heap.size, 1, none⟩ = some (.slice A1 n1 c1) := B3.cell 1
  have uz1 : w3.frozen? ⟨w1.heap.size, 1, none⟩ = false := B3.frozen 1
  have uc2 : w3.cell? ⟨w1.heap.size, 2, none⟩ = some (.slice A2 n2 c2) := B3.cell 2
  have uz2 : w3.frozen? ⟨w1.heap.size, 2, none⟩ = false := B3.frozen 2
  go_upto_region 5 with (fail)
  obtain ⟨W3, hW3⟩ : ∃ W3, W3 = w3.setCell ⟨w1.heap.size, 2, none⟩ (.slice Ap np cp) := ⟨_, rfl⟩
  have HG := Lib.hid (hW3 ▸ HG.out.box uc2 (.slice Ap np cp) : Rep W3 700 (.slice A1 n1 c1) _)
  have HP := Lib.hid (hW3 ▸ HP.out.box uc2 (.slice Ap np cp) : Rep W3 223 (.slice Ap np cp) _)
  have hlt : w.heap.size + 1 < w1.heap.size := by omega
  have B1 : Blk W3 (w.heap.size + 1) 23 #[.string ⟨#[]⟩, .string ⟨#[]⟩] := hW3 ▸ B1.far (p := ⟨w1.heap.size, 2, none⟩) (by show w.heap.size + 1 ≠ w1.heap.size; omega) _
  have B3 : Blk W3 w1.heap.size 47 #[.bool bu, .slice A1 n1 c1, .slice Ap np cp] := hW3 ▸ B3.set_ 2 _
  have hbw : Below w.heap.size w W3 := hW3 ▸ hbw.setCell (p := ⟨w1.heap.size, 2, none⟩) (by show w.heap.size ≤ w1.heap.size; omega) _
  rw [← hW3]
  clear hW3 uc0 uz0 uc1 uz1 uc2 uz2
  have uc0 : W3.cell? ⟨w1.heap.size, 0, none⟩ = some (.bool bu) := B3.cell 0
  have uc1 : W3.cell? ⟨w1.heap.size, 1, none⟩ = some (.slice A1 n1 c1) := B3.cell 1
  have uc2 : W3.cell? ⟨w1.heap.size, 2, none⟩ = some (.slice Ap np cp) := B3.cell 2
  go_wp2_with fail
  have hD : 0 < 10 ^ p.toNat := Nat.pow_pos (by omega)
  refine (ratio_q W3 700 (scaleR (rx n d) p.toNat) (10 ^ p.toNat) _ bu (rndQ (rx n d) p.toNat) ⟨⟨_, _, rfl, HG.out, HP.out.mono (by omega), hD⟩⟩ (by unfold rndQ; rw [← HE1.out]) (by omega) (HT.out.below hbw)).mono ?_
  rintro e w4 ⟨⟨S1, S2, k, rfl, hout⟩, hb4⟩
  have HO := Lib.hid hout
  have hbw := hbw.trans (hb4.mono hbw.size)
  have B1 := B1.below hb4 B1.lt
  clear hout uc0 uc1 uc2 hD
  have rc0 : w4.cell? ⟨w.heap.size + 1, 0, none⟩ = some (.string ⟨#[]⟩) := B1.cell 0
  have rz0 : w4.frozen? ⟨w.heap.size + 1, 0, none⟩ = false := B1.frozen 0
  have rc1 : w4.cell? ⟨w.heap.size + 1, 1, none⟩ = some (.string ⟨#[]⟩) := B1.cell 1
  have rz1 : w4.frozen? ⟨w.heap.size + 1, 1, none⟩ = false := B1.frozen 1
  go_wp2
  obtain ⟨W9, hW9⟩ : ∃ W9, W9 = (w4.setCell ⟨w.heap.size + 1, 0, none⟩ (.string S1)).setCell ⟨w.heap.size + 1, 1, none⟩ (.string S2) := ⟨_, rfl⟩
  have B9 : Blk W9 (w.heap.size + 1) 23 #[.string S1, .string S2] := hW9 ▸ B1.store2 _ _
  have hbw9 : Below w.heap.size w W9 := hW9 ▸ hbw.store2 (by omega) _ _
  rw [← hW9]
  clear hW9
  have qc0 : W9.cell? ⟨w.heap.size + 1, 0, none⟩ = some (.string S1) := B9.cell 0
  have qc1 : W9.cell? ⟨w.heap.size + 1, 1, none⟩ = some (.string S2) := B9.cell 1
  refine bodyPost_ret (v := .tuple #[.agg #[.string S1, .string S2], .int .i64 k]) (by simp [results, Tryz.results17, go_sem, qc0, qc1]) rfl ⟨ret_val (by rw [HE.out, HO.out]), hbw9⟩

end Go.Proofs.YtmpelpmhbadjoaaGreatDoor
