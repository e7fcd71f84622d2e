/- The walk of the reference's checkRows. · CheckScene of both. · The walk of the law: TypeOf and CheckScene of both answer alike. -/
import Derived.Test.YtcmccjcelchlhaaGreatDoorM12
import Derived.Test.YtcmccjcelchlhaaGreatDoorM14
namespace Go.Proofs.YtcmccjcelchlhaaGreatDoor
open Go.RowKit
attribute [local go_sem ↓] Go.wp_at_zero Go.wp_at_succ

set_option maxHeartbeats 4000000 in
set_option maxRecDepth 100000 in
theorem checkRows_any (cells : List CellD) (loops : List NestD) (bounds : List BoundD) (rows : List RowD) (AC AN AB AR : Option Addr) (cc cn cb cr i B : Nat) (hi : i < rows.length) (w : World) (hC : CellsAt w B AC cells) (hN : NestsAt w B AN loops) (hL : RowssAt w B AR rows) (hB : B ≤ w.heap.size) :
    Calls Tryz.prog 24 #[.agg #[.slice AC cells.length cc, .slice AN loops.length cn, .slice AB bounds.length cb, .slice AR rows.length cr], .int .i64 (i : Nat)] w fun e w' => e = .returned (.int .i64 (rowsF loops (rows.take i) rows[i])) ∧ Below w.heap.size w w' := by
  have HCN := Lib.hid (And.intro hC hN)
  have HL := Lib.hid (And.intro hL hB)
  have hll := hL.1
  have hcl := hC.1
  have hnl := hN.1
  unfold maxLen at hll hcl hnl
  obtain ⟨ad, ci, rfl, hb, hci, hcell⟩ := hL.at_ hi
  obtain ⟨b, hbe⟩ : ∃ b, rows[i] = b := ⟨_, rfl⟩
  rw [hbe] at hci ⊢
  have HBE := Lib.hid hbe
  have HI := Lib.hid hi
  obtain ⟨⟨A1, c1, A2, c2, rfl, hr1, hr2⟩, hx1, hx2, hx3⟩ := hci
  have HBX := Lib.hid (And.intro hx1 (And.intro hx2 (And.intro hx3 (And.intro hr1 hr2))))
  have fc0 : w.cell? (ad.add (i * 3)) = some (.string b.nm) := hcell 0 _ rfl
  have fc1 : w.cell? ⟨(ad.add (i * 3)).block, (ad.add (i * 3)).off + 1, none⟩ = some (.slice A1 b.row.length c1) := hcell 1 _ rfl
  have fc2 : w.cell? ⟨(ad.add (i * 3)).block, (ad.add (i * 3)).off + 2, none⟩ = some (.slice A2 b.nums.length c2) := hcell 2 _ rfl
  have HN := Lib.hid (idx_find (fun c : NestD => decide (c.nm = b.nm)) loops 0)
  have hi0 : (0 : Int) ≤ (i : Nat) := by omega
  have hi1 : (i : Int) < (rows.length : Nat) := by omega
  clear hC hN hL hB hcell hbe hx1 hx2 hx3  hr1 hr2 hb
  go_enter Tryz.func24, Tryz.ntmps24
  go_upto_region 1 with (fail)
  obtain ⟨W, hW⟩ : ∃ W, W = (w.alloc (.cells #[.slice AC cells.length cc, .slice AN loops.length cn, .slice AB bounds.length cb, .slice (some ad) rows.length cr] 33 (0, 0))) := ⟨_, rfl⟩
  have hbw : Below w.heap.size w W := by rw [hW]; exact ((Below.refl _ w).alloc (Nat.le_refl _) _)
  have B0 : Blk W (w.heap.size) 33 #[.slice AC cells.length cc, .slice AN loops.length cn, .slice AB bounds.length cb, .slice (some ad) rows.length cr] := by
    rw [hW]
    have := Blk.new w 33 #[.slice AC cells.length cc, .slice AN loops.length cn, .slice AB bounds.length cb, .slice (some ad) rows.length cr]
    exact this
  have hsz : W.heap.size = w.heap.size + 1 := by rw [hW]; simp
  rw [← hW]
  have sc0 : W.cell? ⟨w.heap.size, 0, none⟩ = some (.slice AC cells.length cc) := B0.cell 0
  have sc1 : W.cell? ⟨w.heap.size, 1, none⟩ = some (.slice AN loops.length cn) := B0.cell 1
  have sc2 : W.cell? ⟨w.heap.size, 2, none⟩ = some (.slice AB bounds.length cb) := B0.cell 2
  have sc3 : W.cell? ⟨w.heap.size, 3, none⟩ = some (.slice (some ad) rows.length cr) := B0.cell 3
  have gc0 : W.cell? (ad.add (i * 3)) = some (.string b.nm) := Below.cell_of hbw fc0
  have gc1 : W.cell? ⟨(ad.add (i * 3)).block, (ad.add (i * 3)).off + 1, none⟩ = some (.slice A1 b.row.length c1) := Below.cell_of hbw fc1
  have gc2 : W.cell? ⟨(ad.add (i * 3)).block, (ad.add (i * 3)).off + 2, none⟩ = some (.slice A2 b.nums.length c2) := Below.cell_of hbw fc2
  clear hW hsz fc0 fc1 fc2
  go_upto_region 2 with (fail)
  obtain ⟨W1, hW1⟩ : ∃ W1, W1 = W.alloc (.cells #[.string b.nm, .slice A1 b.row.length c1, .slice A2 b.nums.length c2] 96 (0, 0)) := ⟨_, rfl⟩
  have hb1 : Below W.heap.size W W1 := hW1 ▸ (Below.refl _ W).alloc (Nat.le_refl _) _
  have hbw1 := hbw.trans (hb1.mono hbw.size)
  have B1 : Blk W1 W.heap.size 96 #[.string b.nm, .slice A1 b.row.length c1, .slice A2 b.nums.length c2] := hW1 ▸ Blk.new W _ _
  have B0 := B0.below hb1 B0.lt
  rw [← hW1]
  clear hW1 hb1 sc0 sc1 sc2 sc3 gc0 gc1 gc2
  have sc0 : W1.cell? ⟨w.heap.size, 0, none⟩ = some (.slice AC cells.length cc) := B0.cell 0
  have sc1 : W1.cell? ⟨w.heap.size, 1, none⟩ = some (.slice AN loops.length cn) := B0.cell 1
  have sc2 : W1.cell? ⟨w.heap.size, 2, none⟩ = some (.slice AB bounds.length cb) := B0.cell 2
  have sc3 : W1.cell? ⟨w.heap.size, 3, none⟩ = some (.slice (some ad) rows.length cr) := B0.cell 3
  have xc0 : W1.cell? ⟨W.heap.size, 0, none⟩ = some (.string b.nm) := B1.cell 0
  have xc1 : W1.cell? ⟨W.heap.size, 1, none⟩ = some (.slice A1 b.row.length c1) := B1.cell 1
  have xc2 : W1.cell? ⟨W.heap.size, 2, none⟩ = some (.slice A2 b.nums.length c2) := B1.cell 2
  have hs1 := Nat.le_trans HL.out.2 hbw1.size
  have hB1 : Below B w W1 := hbw1.mono HL.out.2
  have HIX := Lib.hid (nest_any loops (.slice none 0 0) AN cn B b.nm W1 ⟨_, _, _, rfl⟩ (HCN.out.2.keep hB1) hs1)
  rcases HN.out with ⟨hf, hix⟩ | ⟨m, hm, hf, hix⟩
  · have hp : nestP AN (nestIdx loops b.nm) = .pointer none := by unfold nestIdx nestP; rw [hix]; rfl
    rw [hp] at HIX
    have HK := Lib.hid (show rowsF loops (rows.take i) b = 5 by unfold rowsF; rw [hf])
    clear hf hix hp B0 B1
    go_wp2_with fail
    refine HIX.out.mono ?_
    rintro en W2 ⟨rfl, hb2⟩
    go_wp2_with fail
    go_ret
    exact ⟨ret_int (by rw [HK.out]), hbw1.trans (hb2.mono hbw1.size)⟩
  · obtain ⟨ad0, ci0, rfl, hb0, hci0, hcell0⟩ := (HCN.out.2.keep hB1).at_ hm
    have hp : nestP (some ad0) (nestIdx loops b.nm) = .pointer (some (ad0.add (m * 2))) := by unfold nestIdx nestP; rw [hix, if_pos (by omega)]; simp
    rw [hp] at HIX
    obtain ⟨d, hed⟩ : ∃ d, loops[m] = d := ⟨_, rfl⟩
    rw [hed] at hci0 hf
    have HF := Lib.hid hf
    have hm0 : (0 : Int) ≤ (m : Nat) := by omega
    have hm1 : (m : Int) < (loops.length : Nat) := by omega
    have hm2 : ¬ (m : Int) < 0 := by omega
    obtain ⟨⟨A', c', rfl, hdx, hdc⟩, hd1, hd2, hd3⟩ := hci0
    have HDX := Lib.hid hd2
    have mc0 : W1.cell? (ad0.add (m * 2)) = some (.string d.nm) := hcell0 0 _ rfl
    have mc1 : W1.cell? ⟨(ad0.add (m * 2)).block, (ad0.add (m * 2)).off + 1, none⟩ = some (.slice A' d.loops.length c') := hcell0 1 _ rfl
    clear hdx hd2 hd3 hcell0 hed hf hix hp hd1 hb0
    go_wp2_with fail
    refine HIX.out.mono ?_
    rintro en W2 ⟨rfl, hb2⟩
    have hbw2 := hbw1.trans (hb2.mono hbw1.size)
    have hs2 := Nat.le_trans HL.out.2 hbw2.size
    have B0 := B0.below hb2 B0.lt
    have B1 := B1.below hb2 B1.lt
    clear sc0 sc1 sc2 sc3 xc0 xc1 xc2 HIX
    have nc0 : W2.cell? (ad0.add (m * 2)) = some (.string d.nm) := Below.cell_of hb2 mc0
    have nc1 : W2.cell? ⟨(ad0.add (m * 2)).block, (ad0.add (m * 2)).off + 1, none⟩ = some (.slice A' d.loops.length c') := Below.cell_of hb2 mc1
    clear mc0 mc1 hb2
    obtain ⟨f1, hf1⟩ : ∃ f, rowF b.row d.loops.length = f := ⟨_, rfl⟩
    have HF1 := Lib.hid hf1
    have k1 : ∀ w', Below W2.heap.size W2 w' → Calls Tryz.prog 52 #[.slice A1 b.row.length c1, .slice A' d.loops.length c'] w' fun e w'' => e = .returned (.int .i64 f1) ∧ Below w'.heap.size w' w'' := fun w' hb' => by
      have h := checkRow_any b.row A' d.loops.length c' A1 c1 B w' HDX.out HBX.out.2.1 (HBX.out.2.2.2.1.below ((hbw2.mono HL.out.2).trans (hb'.mono hs2)))
      rw [hf1] at h
      exact h.mono fun _ _ ⟨he, hw⟩ => ⟨he, hw ▸ Below.refl _ _⟩
    have K1 := Lib.hid (Later.call k1)
    have q0 := Later.cell (show W2.cell? ⟨W.heap.size, 1, none⟩ = some (.slice A1 b.row.length c1) from B1.cell 1)
    have q1 := Later.cell nc1
    skip
    clear k1 hf1
    go_upto_region 5 with (fail)
    refine wp_region_later (by kernel_rfl) (by kernel_rfl) ?_
    repeat (go_big_quiet_step (with_reducible exact K1.out _))
    refine wpQuiet_nil ?_
    intro W9 hw'
    have hb9 := later_h hw'
    clear hw'
    have hbw9 := hbw2.trans (hb9.mono hbw2.size)
    have hs9 := Nat.le_trans HL.out.2 hbw9.size
    have B0 := B0.below hb9 B0.lt
    have B1 := B1.below hb9 B1.lt
    skip
    clear q0 q1  K1 nc0 nc1
    by_cases h0 : f1 = 0
    rotate_left
    · have bg : (f1 != 0) = true := by simpa using h0
      have HK := Lib.hid (show rowsF loops (rows.take i) b = f1 by unfold rowsF; rw [HF.out]; show (if rowF b.row d.loops.length ≠ 0 then _ else _) = _; rw [HF1.out, if_pos h0])
      clear h0
      go_wp2_with fail
      go_ret
      exact ⟨ret_int (by rw [HK.out]), hbw9⟩
    subst h0
    have HQ1 := Lib.hid (show rowsF loops (rows.take i) b = if numsF none b.nums ≠ 0 then numsF none b.nums else (match (rows.take i).getLast? with | none => 0 | some p => followF b.nm b.row p.nm p.row) by unfold rowsF; rw [HF.out]; show (if rowF b.row d.loops.length ≠ 0 then _ else _) = _; rw [HF1.out, if_neg (by decide)]; rfl)
    have hnl2 : b.nums.length ≤ 9223372036854775807 := HBX.out.2.2.1
    have xc0 : W9.cell? ⟨W.heap.size, 0, none⟩ = some (.string b.nm) := B1.cell 0
    have xc1 : W9.cell? ⟨W.heap.size, 1, none⟩ = some (.slice A1 b.row.length c1) := B1.cell 1
    have xc2 : W9.cell? ⟨W.heap.size, 2, none⟩ = some (.slice A2 b.nums.length c2) := B1.cell 2
    go_wp2_with fail
    have HNR := Lib.hid (HBX.out.2.2.2.2.below (hbw9.mono HL.out.2))
    go_loop [36, 8, 9] (fun i _ _ => ∃ k : Nat, k ≤ b.nums.length ∧ i = .int .i64 k ∧ Hid (numsF none b.nums = numsF (prevO b.nums k) (b.nums.drop k))) (fun i _ _ => b.nums.length - (intOf i).toNat)
    case atStart => exact ⟨0, Nat.zero_le _, rfl, Lib.hid rfl⟩
    case round =>
      obtain ⟨k, hk, rfl, HD⟩ := hrel
      by_cases hlt : k < b.nums.length
      · obtain ⟨ad3, rfl, -, hncell⟩ := HNR.out.2 (by omega)
        have n1 : W9.cell? (ad3.add k) = some (.int .i64 b.nums[k]) := hncell k _ (by rw [numV, List.getElem?_map, List.getElem?_eq_getElem hlt]; rfl)
        have HDD := Lib.hid (HD.out.trans (numsF_step b.nums k hlt))
        obtain ⟨x, hxe⟩ : ∃ x, b.nums[k] = x := ⟨_, rfl⟩
        rw [hxe] at n1 HDD
        obtain ⟨o, ho⟩ : ∃ o, outB x 1 999 = o := ⟨_, rfl⟩
        have HO := Lib.hid ho
        have HLT := Lib.hid hlt
        have hkc : (k : Int) < (b.nums.length : Nat) := by omega
        have hk0 : (0 : Int) ≤ (k : Nat) := by omega
        cases o
        rotate_left
        · have HK := Lib.hid (show rowsF loops (rows.take i) b = 1 by have h := HDD.out.trans (if_pos (show badCode x = true from HO.out)); rw [HQ1.out, h, if_pos (by decide)])
          clear hncell hxe
          go_wp2_with (go_at_call 44; refine (within_any _ _ _ _).mono ?_; rintro e w' ⟨rfl, rfl⟩)
          go_ret
          exact ⟨ret_int (by rw [HK.out]), hbw9⟩
        · have HD1 := Lib.hid (HDD.out.trans (if_neg (by show ¬ outB x 1 999 = true; rw [HO.out]; decide)))
          by_cases hz : k = 0
          · have HD2 := Lib.hid (HD1.out.trans (if_neg (fun h => by omega)))
            have hz1 : ¬ (0 : Int) < (k : Nat) := by omega
            have hz2 : ¬ 0 < k := by omega
            clear hncell hxe hz
            go_wp2_with (go_at_call 44; refine (within_any _ _ _ _).mono ?_; rintro e w' ⟨rfl, rfl⟩)
            go_round
            case rel => exact ⟨k + 1, HLT.out, by go_num, HD2⟩
            case measure =>
              have := HLT.out
              simp [intOf]
              omega
          · have hkm : k - 1 < b.nums.length := by omega
            have n2 : W9.cell? (ad3.add (k - 1)) = some (.int .i64 b.nums[k - 1]) := hncell (k - 1) _ (by rw [numV, List.getElem?_map, List.getElem?_eq_getElem hkm]; rfl)
            obtain ⟨y, hye⟩ : ∃ y, b.nums[k - 1] = y := ⟨_, rfl⟩
            have hyd : b.nums.getD (k - 1) 0 = y := by rw [List.getD_eq_getElem?_getD, List.getElem?_eq_getElem hkm, ← hye]; rfl
            rw [hye] at n2
            rw [hyd] at HD1
            have hz1 : (0 : Int) < (k : Nat) := by omega
            have hz2 : 0 < k := by omega
            have i0 : IntKind.i64.wrap ((k : Int) - 1) = (k : Int) - 1 := IntWalk.i64_in _ (by have := HBX.out.2.2.1; unfold maxLen at this; omega)
            have i1 : ((k : Int) - 1).toNat = k - 1 := by omega
            have i2 : (0 : Int) ≤ (k : Int) - 1 := by omega
            have i3 : (k : Int) - 1 < (b.nums.length : Nat) := by omega
            clear hncell hxe hye hyd hkm hz
            by_cases hxy : x ≤ y
            · have HK := Lib.hid (show rowsF loops (rows.take i) b = 7 by have h := HD1.out.trans (if_pos ⟨by omega, hxy⟩); rw [HQ1.out, h, if_pos (by decide)])
              go_wp2_with (go_at_call 44; refine (within_any _ _ _ _).mono ?_; rintro e w' ⟨rfl, rfl⟩)
              go_ret
              exact ⟨ret_int (by rw [HK.out]), hbw9⟩
            · have HD2 := Lib.hid (HD1.out.trans (if_neg (fun h => hxy h.2)))
              go_wp2_with (go_at_call 44; refine (within_any _ _ _ _).mono ?_; rintro e w' ⟨rfl, rfl⟩)
              go_round
              case rel => exact ⟨k + 1, HLT.out, by go_num, HD2⟩
              case measure =>
                have := HLT.out
                simp [intOf]
                omega
      · have HQ := Lib.hid (show rowsF loops (rows.take i) b = (match (rows.take i).getLast? with | none => 0 | some p => followF b.nm b.row p.nm p.row) by rw [HQ1.out, HD.out, List.drop_eq_nil_of_le (by omega), numsF, if_neg (by decide)])
        clear HD
        by_cases h0 : i = 0
        · have bg : ((i : Int) == 0) = true := by simp; omega
          have HK := Lib.hid (show rowsF loops (rows.take i) b = 0 by rw [HQ.out, h0]; rfl)
          clear h0
          go_wp2_with fail
          go_ret
          exact ⟨ret_int (by rw [HK.out]), hbw9⟩
        · have bg : ((i : Int) == 0) = false := by simp; omega
          have hp1 : i - 1 < rows.length := by omega
          obtain ⟨ad2, pi, had2, -, hpi, hpcell⟩ := (HL.out.1.keep (hbw9.mono HL.out.2)).at_ hp1
          injection had2 with had2
          subst had2
          obtain ⟨p, hpe⟩ : ∃ p, rows[i - 1] = p := ⟨_, rfl⟩
          rw [hpe] at hpi
          have HK := Lib.hid (show rowsF loops (rows.take i) b = followF b.nm b.row p.nm p.row by
            rw [HQ.out, show (rows.take i).getLast? = some p by rw [List.getLast?_eq_getElem?, List.getElem?_take, List.length_take, if_pos (by omega), show min i rows.length - 1 = i - 1 by omega, List.getElem?_eq_getElem hp1, hpe]])
          obtain ⟨⟨A5, c5, A6, c6, rfl, hpr1, hpr2⟩, hp2, hp3, hp4⟩ := hpi
          have pc0 : W9.cell? (ad.add ((i - 1) * 3)) = some (.string p.nm) := hpcell 0 _ rfl
          have pc1 : W9.cell? ⟨(ad.add ((i - 1) * 3)).block, (ad.add ((i - 1) * 3)).off + 1, none⟩ = some (.slice A5 p.row.length c5) := hpcell 1 _ rfl
          have i0 : IntKind.i64.wrap ((i : Int) - 1) = (i : Int) - 1 := IntWalk.i64_in _ (by omega)
          have i1 : ((i : Int) - 1).toNat = i - 1 := by omega
          have i2 : (0 : Int) ≤ (i : Int) - 1 := by omega
          have i3 : (i : Int) - 1 < (rows.length : Nat) := by omega
          have k1 : ∀ w', Below W9.heap.size W9 w' → Calls Tryz.prog 54 #[.string b.nm, .slice A1 b.row.length c1, .string p.nm, .slice A5 p.row.length c5] w' fun e w'' => e = .returned (.int .i64 (followF b.nm b.row p.nm p.row)) ∧ Below w'.heap.size w' w'' := fun w' hb' =>
            behind_any b.nm p.nm b.row p.row A1 A5 c1 c5 B w' HBX.out.2.1 hp3 (HBX.out.2.2.2.1.below ((hbw9.mono HL.out.2).trans (hb'.mono (Nat.le_trans HL.out.2 hbw9.size)))) (hpr1.below (hb'.mono (Nat.le_trans HL.out.2 hbw9.size))) (Nat.le_trans (Nat.le_trans HL.out.2 hbw9.size) hb'.size)
          have K1 := Lib.hid (Later.call k1)
          have q0 := Later.cell pc0
          have q1 := Later.cell pc1
          have q2 := Later.cell (show W9.cell? ⟨W.heap.size, 0, none⟩ = some (.string b.nm) from B1.cell 0)
          have q3 := Later.cell (show W9.cell? ⟨W.heap.size, 1, none⟩ = some (.slice A1 b.row.length c1) from B1.cell 1)
          have q4 := Later.cell (show W9.cell? ⟨w.heap.size, 3, none⟩ = some (.slice (some ad) rows.length cr) from B0.cell 3)
          clear k1 hpcell hpe hpr1 hpr2 hp2 hp3 hp4  h0 hp1 pc0 pc1
          go_upto_region 18 with (fail)
          refine wp_region_later (by kernel_rfl) (by kernel_rfl) ?_
          repeat (go_big_quiet_step (with_reducible exact K1.out _))
          refine wpQuiet_nil ?_
          intro W9 hw'
          have hb9 := later_h hw'
          clear hw'
          go_wp2_with fail
          go_ret
          exact ⟨ret_int (by rw [HK.out]), hbw9.trans (hb9.mono hbw9.size)⟩
end Go.Proofs.YtcmccjcelchlhaaGreatDoor
namespace Go.Proofs.YtcmccjcelchlhaaGreatDoor
open Go.RowKit
attribute [local go_sem ↓] Go.wp_at_zero Go.wp_at_succ

set_option maxHeartbeats 2000000 in
set_option maxRecDepth 100000 in
theorem checkScene_any (cells : List CellD) (loops : List NestD) (bounds : List BoundD) (rows : List RowD) (AC AN AB AR : Option Addr) (cc cn cb cr B : Nat) (w : World) (hC : CellsAt w B AC cells) (hN : NestsAt w B AN loops) (hLb : BoundsAt w B AB bounds) (hLr : RowssAt w B AR rows) (hCL : ∀ d ∈ cells, d.loops.length ≤ 1048576) (hNL : ∀ d ∈ loops, d.loops.length ≤ 1048576) (hB : B ≤ w.heap.size) (htab : Tab10 w) :
    Calls Tryz.prog 7 #[.agg #[.slice AC cells.length cc, .slice AN loops.length cn, .slice AB bounds.length cb, .slice AR rows.length cr]] w fun en w' => en = .returned (.int .i64 (sceneF cells loops bounds rows)) ∧ Below w.heap.size w w' := by
  have HS := Lib.hid (fun w' (hb : Below w.heap.size w w') => sightOf_any cells loops bounds rows AC AN AB AR cc cn cb cr B w' (hC.keep (hb.mono hB)) (hN.keep (hb.mono hB)) (hLb.keep (hb.mono hB)) (hLr.keep (hb.mono hB)) hCL hNL (Nat.le_trans hB hb.size) (htab.below hb))
  clear hC hN hLb hLr hCL hNL hB htab
  go_enter Tryz.func7, Tryz.ntmps7
  go_upto_region 1 with (fail)
  obtain ⟨W, hW⟩ : ∃ W, W = (w.alloc (.cells #[.slice AC cells.length cc, .slice AN loops.length cn, .slice AB bounds.length cb, .slice AR rows.length cr] 33 (0, 0))) := ⟨_, rfl⟩
  have hbw : Below w.heap.size w W := by rw [hW]; exact ((Below.refl _ w).alloc (Nat.le_refl _) _)
  have B0 : Blk W (w.heap.size) 33 #[.slice AC cells.length cc, .slice AN loops.length cn, .slice AB bounds.length cb, .slice AR rows.length cr] := by
    rw [hW]
    have := Blk.new w 33 #[.slice AC cells.length cc, .slice AN loops.length cn, .slice AB bounds.length cb, .slice AR rows.length cr]
    exact this
  have hsz : W.heap.size = w.heap.size + 1 := by rw [hW]; simp
  rw [← hW]
  have sc0 : W.cell? ⟨w.heap.size, 0, none⟩ = some (.slice AC cells.length cc) := B0.cell 0
  have sc1 : W.cell? ⟨w.heap.size, 1, none⟩ = some (.slice AN loops.length cn) := B0.cell 1
  have sc2 : W.cell? ⟨w.heap.size, 2, none⟩ = some (.slice AB bounds.length cb) := B0.cell 2
  have sc3 : W.cell? ⟨w.heap.size, 3, none⟩ = some (.slice AR rows.length cr) := B0.cell 3
  clear hW hsz B0
  go_wp2_with fail
  refine (HS.out W hbw).mono ?_
  rintro en W1 ⟨⟨p, rfl, -⟩, hb1⟩
  clear sc0 sc1 sc2 sc3
  go_wp2_with fail
  go_ret
  exact ⟨rfl, hbw.trans (hb1.mono hbw.size)⟩
set_option maxHeartbeats 4000000 in
set_option maxRecDepth 100000 in
theorem rcheckScene_any (cells : List CellD) (loops : List NestD) (bounds : List BoundD) (rows : List RowD) (AC AN AB AR : Option Addr) (cc cn cb cr B : Nat) (w : World) (hC : CellsAt w B AC cells) (hN : NestsAt w B AN loops) (hLb : BoundsAt w B AB bounds) (hLr : RowssAt w B AR rows) (hcc : cells.length ≤ cc) (hcn : loops.length ≤ cn) (hB : B ≤ w.heap.size) (hsp : Sp w) :
    Calls Tryz.prog 8 #[.agg #[.slice AC cells.length cc, .slice AN loops.length cn, .slice AB bounds.length cb, .slice AR rows.length cr]] w fun en w' => en = .returned (.int .i64 (sceneF cells loops bounds rows)) ∧ Below w.heap.size w w' := by
  have HL := Lib.hid (And.intro hC (And.intro hN (And.intro hLb (And.intro hLr hB))))
  have HCK := Lib.hid (fun w' (hb : Below w.heap.size w w') => rcheckW_any cells loops AC cc AN cn B w' (hC.keep (hb.mono hB)) (hN.keep (hb.mono hB)) hcc hcn (Nat.le_trans hB hb.size) (tabIs_below hsp hb))
  have hlb := hLb.1
  have hlr := hLr.1
  unfold maxLen at hlb hlr
  clear hC hN hLb hLr hB hsp hcc hcn
  go_enter Tryz.func8, Tryz.ntmps8
  go_upto_region 1 with (fail)
  obtain ⟨W, hW⟩ : ∃ W, W = (w.alloc (.cells #[.slice AC cells.length cc, .slice AN loops.length cn, .slice AB bounds.length cb, .slice AR rows.length cr] 33 (0, 0))) := ⟨_, rfl⟩
  have hbw : Below w.heap.size w W := by rw [hW]; exact ((Below.refl _ w).alloc (Nat.le_refl _) _)
  have B0 : Blk W (w.heap.size) 33 #[.slice AC cells.length cc, .slice AN loops.length cn, .slice AB bounds.length cb, .slice AR rows.length cr] := by
    rw [hW]
    have := Blk.new w 33 #[.slice AC cells.length cc, .slice AN loops.length cn, .slice AB bounds.length cb, .slice AR rows.length cr]
    exact this
  have hsz : W.heap.size = w.heap.size + 1 := by rw [hW]; simp
  rw [← hW]
  have sc0 : W.cell? ⟨w.heap.size, 0, none⟩ = some (.slice AC cells.length cc) := B0.cell 0
  have sc1 : W.cell? ⟨w.heap.size, 1, none⟩ = some (.slice AN loops.length cn) := B0.cell 1
  have sc2 : W.cell? ⟨w.heap.size, 2, none⟩ = some (.slice AB bounds.length cb) := B0.cell 2
  have sc3 : W.cell? ⟨w.heap.size, 3, none⟩ = some (.slice AR rows.length cr) := B0.cell 3
  clear hW hsz
  obtain ⟨f, hf⟩ : ∃ f, worldF cells loops = f := ⟨_, rfl⟩
  have HWF := Lib.hid hf
  go_wp2_with fail
  refine (HCK.out W hbw).mono ?_
  rw [hf]
  rintro en W1 ⟨rfl, hb1⟩
  have hbw1 := hbw.trans (hb1.mono hbw.size)
  have B0 := B0.below hb1 B0.lt
  clear hf HCK sc0 sc1 sc2 sc3 hb1
  by_cases h0 : f = 0
  rotate_left
  · have bg : (f != 0) = true := by simpa using h0
    have HK := Lib.hid (show sceneF cells loops bounds rows = f by unfold sceneF; rw [HWF.out, if_pos h0])
    clear h0
    go_wp2_with fail
    go_ret
    exact ⟨by rw [HK.out]; try rfl, hbw1⟩
  subst h0
  have sc0 : W1.cell? ⟨w.heap.size, 0, none⟩ = some (.slice AC cells.length cc) := B0.cell 0
  have sc1 : W1.cell? ⟨w.heap.size, 1, none⟩ = some (.slice AN loops.length cn) := B0.cell 1
  have sc2 : W1.cell? ⟨w.heap.size, 2, none⟩ = some (.slice AB bounds.length cb) := B0.cell 2
  have sc3 : W1.cell? ⟨w.heap.size, 3, none⟩ = some (.slice AR rows.length cr) := B0.cell 3
  by_cases hlb1 : 20000 < bounds.length
  · have hlb2 : (20000 : Int) < (bounds.length : Nat) := by omega
    have HK := Lib.hid (show sceneF cells loops bounds rows = 2 by unfold sceneF; rw [HWF.out, if_neg (by decide), if_pos (.inl hlb1)])
    go_wp2_with fail
    go_ret
    exact ⟨by rw [HK.out]; try rfl, hbw1⟩
  have hlb2 : ¬ (20000 : Int) < (bounds.length : Nat) := by omega
  by_cases hlr1 : 20000 < rows.length
  · have hlr2 : (20000 : Int) < (rows.length : Nat) := by omega
    have HK := Lib.hid (show sceneF cells loops bounds rows = 2 by unfold sceneF; rw [HWF.out, if_neg (by decide), if_pos (.inr hlr1)])
    go_wp2_with fail
    go_ret
    exact ⟨by rw [HK.out]; try rfl, hbw1⟩
  have hlr2 : ¬ (20000 : Int) < (rows.length : Nat) := by omega
  have HLEN := Lib.hid (show ¬ (20000 < bounds.length ∨ 20000 < rows.length) by omega)
  clear hlb1 hlr1
  have HB0 := Lib.hid B0
  have hbw6 := hbw1
  go_wp2_with fail
  clear sc0 sc1 sc2 sc3 B0
  go_loopw [30, 4, 5] (fun i _ _ wr => ∃ k : Nat, k ≤ bounds.length ∧ i = .int .i64 k ∧ Hid (Blk wr w.heap.size 33 #[.slice AC cells.length cc, .slice AN loops.length cn, .slice AB bounds.length cb, .slice AR rows.length cr]) ∧ Hid (firstF (boundF cells) [] bounds = firstF (boundF cells) (bounds.take k) (bounds.drop k)) ∧ Below w.heap.size w wr) (fun i _ _ _ => bounds.length - (intOf i).toNat)
  case atStart => exact ⟨0, Nat.zero_le _, rfl, HB0, Lib.hid rfl, hbw6⟩
  case round =>
    clear HB0 hbw6
    obtain ⟨k, hk, rfl, HB0, HD, hbr⟩ := hrel
    have hsr := hbr.size
    have hBr := hbr.mono HL.out.2.2.2.2
    have C0 := HB0.out
    have sc0 : wr.cell? ⟨w.heap.size, 0, none⟩ = some (.slice AC cells.length cc) := C0.cell 0
    have sc1 : wr.cell? ⟨w.heap.size, 1, none⟩ = some (.slice AN loops.length cn) := C0.cell 1
    have sc2 : wr.cell? ⟨w.heap.size, 2, none⟩ = some (.slice AB bounds.length cb) := C0.cell 2
    have sc3 : wr.cell? ⟨w.heap.size, 3, none⟩ = some (.slice AR rows.length cr) := C0.cell 3
    by_cases hlt : k < bounds.length
    · have HDD := Lib.hid (firstF_step (boundF cells) bounds k hlt)
      have HLW := Lib.hid (checkBound_any cells loops bounds rows AC AN AB AR cc cn cb cr k B hlt wr (HL.out.1.keep hBr) (HL.out.2.1.keep hBr) (HL.out.2.2.1.keep hBr) (Nat.le_trans HL.out.2.2.2.2 hsr))
      obtain ⟨f1, hf1⟩ : ∃ f, boundF cells (bounds.take k) bounds[k] = f := ⟨_, rfl⟩
      rw [hf1] at HLW HDD
      have HLT := Lib.hid hlt
      clear hf1
      go_wp2_with fail
      refine HLW.out.mono ?_
      rintro en W4 ⟨rfl, hb4⟩
      have hbw4 := hbr.trans (hb4.mono hsr)
      have C0 := C0.below hb4 C0.lt
      clear hb4 sc0 sc1 sc2 sc3 HLW
      by_cases h0 : f1 = 0
      rotate_left
      · have bg : (f1 != 0) = true := by simpa using h0
        have HK := Lib.hid (show sceneF cells loops bounds rows = f1 by unfold sceneF; rw [HWF.out, if_neg (by decide), if_neg HLEN.out, HD.out, HDD.out, if_pos h0, if_pos h0])
        clear h0 C0
        go_wp2_with fail
        go_ret
        exact ⟨by rw [HK.out]; try rfl, hbw4⟩
      subst h0
      have HB6 := Lib.hid C0
      have HD7 := Lib.hid (HD.out.trans (HDD.out.trans (if_neg (fun h => h rfl))))
      clear C0
      go_wp2_with fail
      go_roundw
      case rel => exact ⟨k + 1, HLT.out, by go_num, HB6, HD7, hbw4⟩
      case measure =>
        have := HLT.out
        simp [intOf]
        omega
    · have HE := Lib.hid (show firstF (boundF cells) [] bounds = 0 by rw [HD.out, List.drop_eq_nil_of_le (by omega)]; rfl)
      clear HD
      have HS1 := Lib.hid (show sceneF cells loops bounds rows = firstF (rowsF loops) [] rows by unfold sceneF; rw [HWF.out, if_neg (by decide), if_neg HLEN.out, HE.out, if_neg (by decide)])
      have hbw6 := hbr
      go_upto_region 13 with (fail)
      go_wp2_with fail
      clear C0 sc0 sc1 sc2 sc3
      go_loopw [43, 6, 7] (fun i _ _ wr => ∃ k : Nat, k ≤ rows.length ∧ i = .int .i64 k ∧ Hid (Blk wr w.heap.size 33 #[.slice AC cells.length cc, .slice AN loops.length cn, .slice AB bounds.length cb, .slice AR rows.length cr]) ∧ Hid (firstF (rowsF loops) [] rows = firstF (rowsF loops) (rows.take k) (rows.drop k)) ∧ Below w.heap.size w wr) (fun i _ _ _ => rows.length - (intOf i).toNat)
      case atStart => exact ⟨0, Nat.zero_le _, rfl, HB0, Lib.hid rfl, hbw6⟩
      case round =>
        clear HB0 hbw6
        obtain ⟨k, hk, rfl, HB0, HD, hbr⟩ := hrel
        have hsr := hbr.size
        have hBr := hbr.mono HL.out.2.2.2.2
        have C0 := HB0.out
        have sc0 : wr.cell? ⟨w.heap.size, 0, none⟩ = some (.slice AC cells.length cc) := C0.cell 0
        have sc1 : wr.cell? ⟨w.heap.size, 1, none⟩ = some (.slice AN loops.length cn) := C0.cell 1
        have sc2 : wr.cell? ⟨w.heap.size, 2, none⟩ = some (.slice AB bounds.length cb) := C0.cell 2
        have sc3 : wr.cell? ⟨w.heap.size, 3, none⟩ = some (.slice AR rows.length cr) := C0.cell 3
        by_cases hlt : k < rows.length
        · have HDD := Lib.hid (firstF_step (rowsF loops) rows k hlt)
          have HLW := Lib.hid (checkRows_any cells loops bounds rows AC AN AB AR cc cn cb cr k B hlt wr (HL.out.1.keep hBr) (HL.out.2.1.keep hBr) (HL.out.2.2.2.1.keep hBr) (Nat.le_trans HL.out.2.2.2.2 hsr))
          obtain ⟨f1, hf1⟩ : ∃ f, rowsF loops (rows.take k) rows[k] = f := ⟨_, rfl⟩
          rw [hf1] at HLW HDD
          have HLT := Lib.hid hlt
          clear hf1
          go_wp2_with fail
          refine HLW.out.mono ?_
          rintro en W4 ⟨rfl, hb4⟩
          have hbw4 := hbr.trans (hb4.mono hsr)
          have C0 := C0.below hb4 C0.lt
          clear hb4 sc0 sc1 sc2 sc3 HLW
          by_cases h0 : f1 = 0
          rotate_left
          · have bg : (f1 != 0) = true := by simpa using h0
            have HK := Lib.hid (show sceneF cells loops bounds rows = f1 by rw [HS1.out, HD.out, HDD.out, if_pos h0])
            clear h0 C0
            go_wp2_with fail
            go_ret
            exact ⟨by rw [HK.out]; try rfl, hbw4⟩
          subst h0
          have HB6 := Lib.hid C0
          have HD7 := Lib.hid (HD.out.trans (HDD.out.trans (if_neg (fun h => h rfl))))
          clear C0
          go_wp2_with fail
          go_roundw
          case rel => exact ⟨k + 1, HLT.out, by go_num, HB6, HD7, hbw4⟩
          case measure =>
            have := HLT.out
            simp [intOf]
            omega
        · have HE := Lib.hid (show firstF (rowsF loops) [] rows = 0 by rw [HD.out, List.drop_eq_nil_of_le (by omega)]; rfl)
          clear HD
          have HK := Lib.hid (show sceneF cells loops bounds rows = 0 by rw [HS1.out, HE.out])
          go_wp2_with fail
          go_ret
          exact ⟨by rw [HK.out]; try rfl, hbr⟩
end Go.Proofs.YtcmccjcelchlhaaGreatDoor
namespace Go.Proofs.YtcmccjcelchlhaaGreatDoor
open Go.RowKit
attribute [local go_sem ↓] Go.wp_at_zero Go.wp_at_succ

set_option maxHeartbeats 2000000 in
set_option maxRecDepth 100000 in
theorem types_any (e : Ex) (cs : List Value) (at_ : List ByteArray) (A : Option Addr) (c : Nat) (cells : List CellD) (loops : List NestD) (bounds : List BoundD) (rows : List RowD) (AC AN AB AR : Option Addr) (cc cn cb cr B : Nat) (w : World) (hC : CellsAt w B AC cells) (hN : NestsAt w B AN loops) (hLb : BoundsAt w B AB bounds) (hLr : RowssAt w B AR rows) (hx : ExAt w B e cs) (ha : at_.length ≤ maxLen) (hat : StrsAt w B A at_) (hc : at_.length ≤ c) (hs : ∀ s ∈ at_, s.size ≤ maxLen) (hp : e.parts ≤ 1000000) (hcc : cells.length ≤ cc) (hcn : loops.length ≤ cn) (hCL : ∀ d ∈ cells, d.loops.length ≤ 1048576) (hNL : ∀ d ∈ loops, d.loops.length ≤ 1048576) (hB : B ≤ w.heap.size) (htab : Tab10 w) (hsp : Sp w) :
    Calls Tryz.prog 3 #[.agg cs.toArray, .agg #[.slice AC cells.length cc, .slice AN loops.length cn, .slice AB bounds.length cb, .slice AR rows.length cr], .slice A at_.length c] w fun en w' => en = .returned (.bool true) ∧ Below w.heap.size w w' := by
  have H1 := Lib.hid (fun w' (hb : Below w.heap.size w w') => typeOf_any e cells loops AC AN cc cn B at_ A c cs w' (hx.keep (hb.mono hB)) (hC.keep (hb.mono hB)) (hN.keep (hb.mono hB)) ha (hat.below (hb.mono hB)) hc (Nat.le_trans hB hb.size) hp hNL hs)
  have H2 := Lib.hid (fun w' (hb : Below w.heap.size w w') => rtypeOf_any e cells loops AC AN cc cn B at_ A c cs w' (hx.keep (hb.mono hB)) (hC.keep (hb.mono hB)) (hN.keep (hb.mono hB)) ha (hat.below (hb.mono hB)) hc (Nat.le_trans hB hb.size) hp hNL hcc hcn (tabIs_below hsp hb))
  have H3 := Lib.hid (fun w' (hb : Below w.heap.size w w') => checkScene_any cells loops bounds rows AC AN AB AR cc cn cb cr B w' (hC.keep (hb.mono hB)) (hN.keep (hb.mono hB)) (hLb.keep (hb.mono hB)) (hLr.keep (hb.mono hB)) hCL hNL (Nat.le_trans hB hb.size) (htab.below hb))
  have H4 := Lib.hid (fun w' (hb : Below w.heap.size w w') => rcheckScene_any cells loops bounds rows AC AN AB AR cc cn cb cr B w' (hC.keep (hb.mono hB)) (hN.keep (hb.mono hB)) (hLb.keep (hb.mono hB)) (hLr.keep (hb.mono hB)) hcc hcn (Nat.le_trans hB hb.size) (tabIs_below hsp hb))
  obtain ⟨hn, hs', hl, ha8, hx, hr, hi⟩ := hx
  rename_i A1 c1 A2 c2 cs
  change Hid (∀ w', Below w.heap.size w w' → Calls Tryz.prog 5 #[.agg #[.int .i64 e.k, .int .i64 e.op, .string e.nm, .int .i64 e.v.k, .int .i64 e.v.n, .string e.v.s, .slice A1 e.v.l.length c1, .slice A2 e.ar.length c2], .slice AC cells.length cc, .slice AN loops.length cn, .slice A at_.length c] w' _) at H1
  change Hid (∀ w', Below w.heap.size w w' → Calls Tryz.prog 6 #[.agg #[.int .i64 e.k, .int .i64 e.op, .string e.nm, .int .i64 e.v.k, .int .i64 e.v.n, .string e.v.s, .slice A1 e.v.l.length c1, .slice A2 e.ar.length c2], .slice AC cells.length cc, .slice AN loops.length cn, .slice A at_.length c] w' _) at H2
  clear hx hr hi hC hN hLb hLr hat hcc hcn hCL hNL hB htab hsp hs
  show Calls Tryz.prog 3 #[.agg #[.int .i64 e.k, .int .i64 e.op, .string e.nm, .int .i64 e.v.k, .int .i64 e.v.n, .string e.v.s, .slice A1 e.v.l.length c1, .slice A2 e.ar.length c2], .agg #[.slice AC cells.length cc, .slice AN loops.length cn, .slice AB bounds.length cb, .slice AR rows.length cr], .slice A at_.length c] w _
  go_enter Tryz.func3, Tryz.ntmps3
  go_upto_region 1 with (fail)
  obtain ⟨W, hW⟩ : ∃ W, W = ((w.alloc (.cells #[.int .i64 e.k, .int .i64 e.op, .string e.nm, .int .i64 e.v.k, .int .i64 e.v.n, .string e.v.s, .slice A1 e.v.l.length c1, .slice A2 e.ar.length c2] 27 (0, 0))).alloc (.cells #[.slice AC cells.length cc, .slice AN loops.length cn, .slice AB bounds.length cb, .slice AR rows.length cr] 33 (0, 0))) := ⟨_, rfl⟩
  have hbw : Below w.heap.size w W := by rw [hW]; exact (((Below.refl _ w).alloc (Nat.le_refl _) _).alloc (by simp) _)
  have B0 : Blk W (w.heap.size) 27 #[.int .i64 e.k, .int .i64 e.op, .string e.nm, .int .i64 e.v.k, .int .i64 e.v.n, .string e.v.s, .slice A1 e.v.l.length c1, .slice A2 e.ar.length c2] := by
    rw [hW]
    have := Blk.new w 27 #[.int .i64 e.k, .int .i64 e.op, .string e.nm, .int .i64 e.v.k, .int .i64 e.v.n, .string e.v.s, .slice A1 e.v.l.length c1, .slice A2 e.ar.length c2]
    have := this.alloc (.cells #[.slice AC cells.length cc, .slice AN loops.length cn, .slice AB bounds.length cb, .slice AR rows.length cr] 33 (0, 0))
    exact this
  have B1 : Blk W (w.heap.size + 1) 33 #[.slice AC cells.length cc, .slice AN loops.length cn, .slice AB bounds.length cb, .slice AR rows.length cr] := by
    rw [hW]
    have := Blk.new (w.alloc (.cells #[.int .i64 e.k, .int .i64 e.op, .string e.nm, .int .i64 e.v.k, .int .i64 e.v.n, .string e.v.s, .slice A1 e.v.l.length c1, .slice A2 e.ar.length c2] 27 (0, 0))) 33 #[.slice AC cells.length cc, .slice AN loops.length cn, .slice AB bounds.length cb, .slice AR rows.length cr]
    rwa [World.size_alloc] at this
  have hsz : W.heap.size = w.heap.size + 2 := by rw [hW]; simp
  rw [← hW]
  have ec0 : W.cell? ⟨w.heap.size, 0, none⟩ = some (.int .i64 e.k) := B0.cell 0
  have ec1 : W.cell? ⟨w.heap.size, 1, none⟩ = some (.int .i64 e.op) := B0.cell 1
  have ec2 : W.cell? ⟨w.heap.size, 2, none⟩ = some (.string e.nm) := B0.cell 2
  have ec3 : W.cell? ⟨w.heap.size, 3, none⟩ = some (.int .i64 e.v.k) := B0.cell 3
  have ec4 : W.cell? ⟨w.heap.size, 4, none⟩ = some (.int .i64 e.v.n) := B0.cell 4
  have ec5 : W.cell? ⟨w.heap.size, 5, none⟩ = some (.string e.v.s) := B0.cell 5
  have ec6 : W.cell? ⟨w.heap.size, 6, none⟩ = some (.slice A1 e.v.l.length c1) := B0.cell 6
  have ec7 : W.cell? ⟨w.heap.size, 7, none⟩ = some (.slice A2 e.ar.length c2) := B0.cell 7
  have sc0 : W.cell? ⟨w.heap.size + 1, 0, none⟩ = some (.slice AC cells.length cc) := B1.cell 0
  have sc1 : W.cell? ⟨w.heap.size + 1, 1, none⟩ = some (.slice AN loops.length cn) := B1.cell 1
  have sc2 : W.cell? ⟨w.heap.size + 1, 2, none⟩ = some (.slice AB bounds.length cb) := B1.cell 2
  have sc3 : W.cell? ⟨w.heap.size + 1, 3, none⟩ = some (.slice AR rows.length cr) := B1.cell 3
  clear hW hsz
  obtain ⟨r, hr⟩ : ∃ r, typeF e cells loops at_ = r := ⟨_, rfl⟩
  obtain ⟨r1, r2⟩ := r
  obtain ⟨f, hf⟩ : ∃ f, sceneF cells loops bounds rows = f := ⟨_, rfl⟩
  have HRR := Lib.hid (And.intro hr hf)
  go_wp2_with fail
  refine (H1.out W hbw).mono ?_
  rw [hr]
  rintro en W1 ⟨rfl, hb1⟩
  have hbw1 := hbw.trans (hb1.mono hbw.size)
  have B0 := B0.below hb1 B0.lt
  have B1 := B1.below hb1 B1.lt
  clear ec0 ec1 ec2 ec3 ec4 ec5 ec6 ec7 sc0 sc1 sc2 sc3 hb1
  have ec0 : W1.cell? ⟨w.heap.size, 0, none⟩ = some (.int .i64 e.k) := B0.cell 0
  have ec1 : W1.cell? ⟨w.heap.size, 1, none⟩ = some (.int .i64 e.op) := B0.cell 1
  have ec2 : W1.cell? ⟨w.heap.size, 2, none⟩ = some (.string e.nm) := B0.cell 2
  have ec3 : W1.cell? ⟨w.heap.size, 3, none⟩ = some (.int .i64 e.v.k) := B0.cell 3
  have ec4 : W1.cell? ⟨w.heap.size, 4, none⟩ = some (.int .i64 e.v.n) := B0.cell 4
  have ec5 : W1.cell? ⟨w.heap.size, 5, none⟩ = some (.string e.v.s) := B0.cell 5
  have ec6 : W1.cell? ⟨w.heap.size, 6, none⟩ = some (.slice A1 e.v.l.length c1) := B0.cell 6
  have ec7 : W1.cell? ⟨w.heap.size, 7, none⟩ = some (.slice A2 e.ar.length c2) := B0.cell 7
  have sc0 : W1.cell? ⟨w.heap.size + 1, 0, none⟩ = some (.slice AC cells.length cc) := B1.cell 0
  have sc1 : W1.cell? ⟨w.heap.size + 1, 1, none⟩ = some (.slice AN loops.length cn) := B1.cell 1
  have sc2 : W1.cell? ⟨w.heap.size + 1, 2, none⟩ = some (.slice AB bounds.length cb) := B1.cell 2
  have sc3 : W1.cell? ⟨w.heap.size + 1, 3, none⟩ = some (.slice AR rows.length cr) := B1.cell 3
  go_wp2_with fail
  refine (H2.out W1 hbw1).mono ?_
  rw [hr]
  rintro en W2 ⟨rfl, hb2⟩
  have hbw2 := hbw1.trans (hb2.mono hbw1.size)
  have B1 := B1.below hb2 B1.lt
  clear ec0 ec1 ec2 ec3 ec4 ec5 ec6 ec7 sc0 sc1 sc2 sc3 hb2 B0
  have K1 := Lib.hid (Later.call (W := W2) (show ∀ w', Below W2.heap.size W2 w' → Calls Tryz.prog 7 #[.agg #[.slice AC cells.length cc, .slice AN loops.length cn, .slice AB bounds.length cb, .slice AR rows.length cr]] w' fun e w'' => e = .returned (.int .i64 f) ∧ Below w'.heap.size w' w'' from fun w' hb => by
    have h := H3.out w' (hbw2.trans (hb.mono hbw2.size))
    rwa [hf] at h))
  have K2 := Lib.hid (Later.call (W := W2) (show ∀ w', Below W2.heap.size W2 w' → Calls Tryz.prog 8 #[.agg #[.slice AC cells.length cc, .slice AN loops.length cn, .slice AB bounds.length cb, .slice AR rows.length cr]] w' fun e w'' => e = .returned (.int .i64 f) ∧ Below w'.heap.size w' w'' from fun w' hb => by
    have h := H4.out w' (hbw2.trans (hb.mono hbw2.size))
    rwa [hf] at h))
  have q0 := Later.cell (show W2.cell? ⟨w.heap.size + 1, 0, none⟩ = some (.slice AC cells.length cc) from B1.cell 0)
  have q1 := Later.cell (show W2.cell? ⟨w.heap.size + 1, 1, none⟩ = some (.slice AN loops.length cn) from B1.cell 1)
  have q2 := Later.cell (show W2.cell? ⟨w.heap.size + 1, 2, none⟩ = some (.slice AB bounds.length cb) from B1.cell 2)
  have q3 := Later.cell (show W2.cell? ⟨w.heap.size + 1, 3, none⟩ = some (.slice AR rows.length cr) from B1.cell 3)
  have b1 : (r1 == r1) = true := by simp
  have b2 : (r2 == r2) = true := by simp
  have b3 : (f == f) = true := by simp
  clear hr hf B1
  go_upto_region 3 with (fail)
  refine wp_region_later (by kernel_rfl) (by kernel_rfl) ?_
  repeat (go_big_quiet_step (first | with_reducible exact K1.out _ | with_reducible exact K2.out _))
  refine wpQuiet_nil ?_
  intro W9 hw'
  have hb9 := later_h hw'
  clear hw'
  go_wp2_with fail
  go_ret
  exact ⟨ret_bool (by simp), hbw2.trans (hb9.mono hbw2.size)⟩
end Go.Proofs.YtcmccjcelchlhaaGreatDoor
