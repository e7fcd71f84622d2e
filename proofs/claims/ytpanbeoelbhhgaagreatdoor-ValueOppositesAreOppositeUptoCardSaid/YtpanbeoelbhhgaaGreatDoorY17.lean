/- The walk of rowsFault. · The walk of SightOf. -/
import Derived.Test.YtpanbeoelbhhgaaGreatDoorY16
import Derived.Deep.RegionHeld3
import Derived.Deep.AppendLies
namespace Go.Proofs.YtpanbeoelbhhgaaGreatDoor
open Go.RowKit
attribute [local go_sem ↓] Go.wp_at_zero Go.wp_at_succ
theorem nestF_map {w : World} {B : Nat} {kv : List (ByteArray × Value)} {l : List NestD} (h : KvN w B kv l) (s : ByteArray) :
    (getK kv s = none ∧ l.find? (fun c => decide (c.nm = s)) = none) ∨ ∃ d cs, getK kv s = some (.agg cs.toArray) ∧ NestAt w B d cs ∧ d ∈ l ∧ l.find? (fun c => decide (c.nm = s)) = some d := by
  cases hg : getK kv s with
  | none => exact .inl ⟨rfl, find_none (fun d hd => by have := h.no s hg d hd; simp [this])⟩
  | some v =>
    obtain ⟨d, cs, h1, h2, h3, h4⟩ := h.yes s v hg
    refine .inr ⟨d, cs, by rw [h3], h4, h1, ?_⟩
    cases hf : l.find? (fun c => decide (c.nm = s)) with
    | none => exact absurd (List.find?_eq_none.1 hf d h1) (by simp [h2])
    | some x =>
      have hx := List.find?_some hf
      rw [decide_eq_true_iff] at hx
      have := one_of (f := NestD.nm) h.one (List.mem_of_find?_eq_some hf) h1 (by rw [hx, h2])
      subst this; rfl
set_option maxHeartbeats 4000000 in
set_option maxRecDepth 100000 in
theorem rowsFault_any (cells : List CellD) (loops : List NestD) (kv1 kv2 : List (ByteArray × Value)) (m1 m2 m3 m4 gs B : Nat) (bounds : List RowD) (AL : Option Addr) (cl i : Nat) (hi : i < bounds.length) (w : World) (hS : Blk w gs 61 #[.map (some m1), .map (some m2), .map (some m3), .map (some m4)]) (hw : TyW w B m1 m2 kv1 kv2 cells loops) (hL : RowssAt w B AL bounds) (hB : B ≤ w.heap.size) :
    Calls Tryz.prog 36 #[.pointer (some ⟨gs, 0, none⟩), .slice AL bounds.length cl, .int .i64 (i : Nat)] w fun e w' => e = .returned (.int .i64 (rowsF loops (bounds.take i) bounds[i])) ∧ Below w.heap.size w w' := by
  have HWW := Lib.hid hw
  have HL := Lib.hid (And.intro hL hB)
  have hll := hL.1
  unfold maxLen at hll
  obtain ⟨ad, ci, rfl, hb, hci, hcell⟩ := hL.at_ hi
  obtain ⟨b, hbe⟩ : ∃ b, bounds[i] = b := ⟨_, rfl⟩
  rw [hbe] at hci ⊢
  have HBE := Lib.hid hbe
  have HI := Lib.hid hi
  obtain ⟨⟨A1, c1, A2, c2, rfl, hr1, hr2⟩, hx1, hx2, hx3⟩ := hci
  have HBX := Lib.hid (And.intro hx1 (And.intro hx2 (And.intro hx3 (And.intro hr1 hr2))))
  have fc0 : w.cell? (ad.add (i * 3)) = some (.string b.nm) := hcell 0 _ rfl
  have fc1 : w.cell? ⟨(ad.add (i * 3)).block, (ad.add (i * 3)).off + 1, none⟩ = some (.slice A1 b.row.length c1) := hcell 1 _ rfl
  have fc2 : w.cell? ⟨(ad.add (i * 3)).block, (ad.add (i * 3)).off + 2, none⟩ = some (.slice A2 b.nums.length c2) := hcell 2 _ rfl
  have HN := Lib.hid (nestF_map hw.nn b.nm)
  have hi0 : (0 : Int) ≤ (i : Nat) := by omega
  have hi1 : (i : Int) < (bounds.length : Nat) := by omega
  have hgs := hS.lt
  clear hw hL hB hcell hbe hx1 hx2 hx3  hr1 hr2 hb
  go_enter Tryz.func36, Tryz.ntmps36
  go_upto_region 2 with (fail)
  obtain ⟨W, hW⟩ : ∃ W, W = (w.alloc (.cells #[.string b.nm, .slice A1 b.row.length c1, .slice A2 b.nums.length c2] 92 (0, 0))) := ⟨_, rfl⟩
  have hbw : Below w.heap.size w W := by rw [hW]; exact ((Below.refl _ w).alloc (Nat.le_refl _) _)
  have B0 : Blk W (w.heap.size) 92 #[.string b.nm, .slice A1 b.row.length c1, .slice A2 b.nums.length c2] := by
    rw [hW]
    have := Blk.new w 92 #[.string b.nm, .slice A1 b.row.length c1, .slice A2 b.nums.length c2]
    exact this
  have hsz : W.heap.size = w.heap.size + 1 := by rw [hW]; simp
  rw [← hW]
  have B1 := B0
  have B0 : Blk W gs 61 #[.map (some m1), .map (some m2), .map (some m3), .map (some m4)] := hS.below hbw hS.lt
  have sc0 : W.cell? ⟨gs, 1, none⟩ = some (.map (some m2)) := B0.cell 1
  have yc0 : W.cell? ⟨w.heap.size, 0, none⟩ = some (.string b.nm) := B1.cell 0
  have HM1 := Lib.hid (HWW.out.n.below hbw HWW.out.n.lt)
  have HB1 := Lib.hid B1
  clear hW hsz B1  fc0 fc1 fc2
  rcases HN.out with ⟨hg, hf⟩ | ⟨d, ds, hg, hd, hdl, hf⟩
  · skip
    have hlk : ∀ w', Below W.heap.size W w' → (Instr.lookup 55 (.map (some m2)) (.string b.nm) true).run Tryz.prog w' = .ok (.tuple #[.agg #[.string ⟨#[]⟩, .slice none 0 0], .bool false]) w' := fun w' hb' => by
      have h := (HM1.out.below hb' HM1.out.lt).look Tryz.underlying55 (zeroNest w') HBX.out.1
      rw [hg] at h
      exact h
    have HLK := Lib.hid hlk
    have HF := Lib.hid hf
    have hl0 := HLK.out W (Below.refl _ _)
    have hbr := Below.refl W.heap.size W
    have HKQ := Lib.hid (fun w' (hq : Below W.heap.size W w') => And.intro (Below.cell_of hq sc0) (And.intro (Below.cell_of hq yc0) (And.intro (HLK.out w' hq) hq)))
    clear hlk hf hg
    go_region_held3 (fun w' => w'.cell? ⟨gs, 1, none⟩ = some (.map (some m2)) ∧ w'.cell? ⟨w.heap.size, 0, none⟩ = some (.string b.nm) ∧ (Instr.lookup 55 (.map (some m2)) (.string b.nm) true).run Tryz.prog w' = .ok (.tuple #[.agg #[.string ⟨#[]⟩, .slice none 0 0], .bool false]) w' ∧ Below W.heap.size W w') (first | exact HKQ.out _ hbr.drew | exact HKQ.out _ (hbr.alloc (Nat.le_refl _) _) | exact HKQ.out _ (hbr.alloc (Nat.le_refl _) _).drew | exact HKQ.out _ (hbr.drew.alloc (Nat.le_refl _) _) | exact HKQ.out _ hbr) (fail)
    all_goals
      obtain ⟨W2, hW2⟩ : ∃ W2, W2 = (W.alloc (.cells #[.string ⟨#[]⟩, .slice none 0 0] 97 (0, 0))).drew := ⟨_, rfl⟩
      have hb2 : Below W.heap.size W W2 := hW2 ▸ ((Below.refl _ W).alloc (Nat.le_refl _) _).drew
      have hbw2 := hbw.trans (hb2.mono hbw.size)
      have B2 : Blk W2 W.heap.size 97 #[.string ⟨#[]⟩, .slice none 0 0] := hW2 ▸ (Blk.new W _ _).drew
      rw [← hW2]
      clear hW2 hl0 HKQ HLK sc0
      have B0 := B0.below hb2 B0.lt
      have HK2 := Lib.hid (show rowsF loops (bounds.take i) b = 5 by unfold rowsF; rw [HF.out])
      clear hb2 B2 B0
      go_wp2_with (fail)
      go_ret
      exact ⟨ret_int (by rw [HK2.out]), hbw2⟩
  · obtain ⟨⟨A', c', rfl, hdx, hdc⟩, hd1, hd2, hd3⟩ := hd
    have HDX := Lib.hid hd2
    clear hdx hd2 hd3
    have hlk : ∀ w', Below W.heap.size W w' → (Instr.lookup 55 (.map (some m2)) (.string b.nm) true).run Tryz.prog w' = .ok (.tuple #[.agg #[.string d.nm, .slice A' d.loops.length c'], .bool true]) w' := fun w' hb' => by
      have h := (HM1.out.below hb' HM1.out.lt).look Tryz.underlying55 (zeroNest w') HBX.out.1
      rw [hg] at h
      exact h
    have HLK := Lib.hid hlk
    have HF := Lib.hid hf
    have hl0 := HLK.out W (Below.refl _ _)
    have hbr := Below.refl W.heap.size W
    have HKQ := Lib.hid (fun w' (hq : Below W.heap.size W w') => And.intro (Below.cell_of hq sc0) (And.intro (Below.cell_of hq yc0) (And.intro (HLK.out w' hq) hq)))
    clear hlk hf hg
    go_region_held3 (fun w' => w'.cell? ⟨gs, 1, none⟩ = some (.map (some m2)) ∧ w'.cell? ⟨w.heap.size, 0, none⟩ = some (.string b.nm) ∧ (Instr.lookup 55 (.map (some m2)) (.string b.nm) true).run Tryz.prog w' = .ok (.tuple #[.agg #[.string d.nm, .slice A' d.loops.length c'], .bool true]) w' ∧ Below W.heap.size W w') (first | exact HKQ.out _ hbr.drew | exact HKQ.out _ (hbr.alloc (Nat.le_refl _) _) | exact HKQ.out _ (hbr.alloc (Nat.le_refl _) _).drew | exact HKQ.out _ (hbr.drew.alloc (Nat.le_refl _) _) | exact HKQ.out _ hbr) (fail)
    all_goals
      obtain ⟨W2, hW2⟩ : ∃ W2, W2 = (W.alloc (.cells #[.string d.nm, .slice A' d.loops.length c'] 97 (0, 0))).drew := ⟨_, rfl⟩
      have hb2 : Below W.heap.size W W2 := hW2 ▸ ((Below.refl _ W).alloc (Nat.le_refl _) _).drew
      have hbw2 := hbw.trans (hb2.mono hbw.size)
      have B2 : Blk W2 W.heap.size 97 #[.string d.nm, .slice A' d.loops.length c'] := hW2 ▸ (Blk.new W _ _).drew
      rw [← hW2]
      clear hW2 hl0 HKQ HLK sc0
      have B0 := B0.below hb2 B0.lt
      have B1 := HB1.out.below hb2 HB1.out.lt
      have hB2 : Below B w W2 := hbw2.mono HL.out.2
      clear hb2
      obtain ⟨f1, hf1⟩ : ∃ f, rowF b.row d.loops.length = f := ⟨_, rfl⟩
      have HF1 := Lib.hid hf1
      have HRF := Lib.hid (rowFault_any b.row d.loops.length A1 c1 B W2 HDX.out HBX.out.2.1 (HBX.out.2.2.2.1.below hB2))
      rw [hf1] at HRF
      have xc0 : W2.cell? ⟨w.heap.size, 0, none⟩ = some (.string b.nm) := B1.cell 0
      have xc1 : W2.cell? ⟨w.heap.size, 1, none⟩ = some (.slice A1 b.row.length c1) := B1.cell 1
      have xc2 : W2.cell? ⟨w.heap.size, 2, none⟩ = some (.slice A2 b.nums.length c2) := B1.cell 2
      have dl : W2.cell? ⟨W.heap.size, 1, none⟩ = some (.slice A' d.loops.length c') := B2.cell 1
      skip
      clear hf1 yc0
      go_wp2_with fail
      refine HRF.out.mono ?_
      rintro en w' ⟨rfl, rfl⟩
      by_cases h0 : f1 = 0
      rotate_left
      · have bg : (f1 != 0) = true := by simpa using h0
        have HK := Lib.hid (show rowsF loops (bounds.take i) b = f1 by unfold rowsF; rw [HF.out]; show (if rowF b.row d.loops.length ≠ 0 then _ else _) = _; rw [HF1.out, if_pos h0])
        clear h0
        go_wp2_with fail
        go_ret
        exact ⟨ret_int (by rw [HK.out]), hbw2⟩
      subst h0
      clear HRF B1 B2 dl
      have HQ1 := Lib.hid (show rowsF loops (bounds.take i) b = if numsF none b.nums ≠ 0 then numsF none b.nums else (match (bounds.take i).getLast? with | none => 0 | some p => followF b.nm b.row p.nm p.row) by unfold rowsF; rw [HF.out]; show (if rowF b.row d.loops.length ≠ 0 then _ else _) = _; rw [HF1.out, if_neg (by decide)]; rfl)
      have hnl : b.nums.length ≤ 9223372036854775807 := HBX.out.2.2.1
      go_wp2_with fail
      have HNR := Lib.hid (HBX.out.2.2.2.2.below hB2)
      go_loop [42, 11, 12] (fun i _ _ => ∃ k : Nat, k ≤ b.nums.length ∧ i = .int .i64 k ∧ Hid (numsF none b.nums = numsF (prevO b.nums k) (b.nums.drop k))) (fun i _ _ => b.nums.length - (intOf i).toNat)
      case atStart => exact ⟨0, Nat.zero_le _, rfl, Lib.hid rfl⟩
      case round =>
        obtain ⟨k, hk, rfl, HD⟩ := hrel
        by_cases hlt : k < b.nums.length
        · obtain ⟨ad3, rfl, -, hncell⟩ := HNR.out.2 (by omega)
          have n1 : W2.cell? (ad3.add k) = some (.int .i64 b.nums[k]) := hncell k _ (by rw [numV, List.getElem?_map, List.getElem?_eq_getElem hlt]; rfl)
          have HDD := Lib.hid (HD.out.trans (numsF_step b.nums k hlt))
          obtain ⟨x, hxe⟩ : ∃ x, b.nums[k] = x := ⟨_, rfl⟩
          rw [hxe] at n1 HDD
          obtain ⟨o, ho⟩ : ∃ o, outB x 1 999 = o := ⟨_, rfl⟩
          have HO := Lib.hid ho
          have HLT := Lib.hid hlt
          have hkc : (k : Int) < (b.nums.length : Nat) := by omega
          have hk0 : (0 : Int) ≤ (k : Nat) := by omega
          cases o
          rotate_left
          · have HK := Lib.hid (show rowsF loops (bounds.take i) b = 1 by have h := HDD.out.trans (if_pos (show badCode x = true from HO.out)); rw [HQ1.out, h, if_pos (by decide)])
            clear hncell hxe
            go_wp2_with (go_at_call 23; refine (outside_any _ _ _ _).mono ?_; rintro e w' ⟨rfl, rfl⟩)
            go_ret
            exact ⟨ret_int (by rw [HK.out]), hbw2⟩
          · have HD1 := Lib.hid (HDD.out.trans (if_neg (by show ¬ outB x 1 999 = true; rw [HO.out]; decide)))
            by_cases hz : k = 0
            · have HD2 := Lib.hid (HD1.out.trans (if_neg (fun h => by omega)))
              have hz1 : ¬ (0 : Int) < (k : Nat) := by omega
              have hz2 : ¬ 0 < k := by omega
              clear hncell hxe hz
              go_wp2_with (go_at_call 23; refine (outside_any _ _ _ _).mono ?_; rintro e w' ⟨rfl, rfl⟩)
              go_round
              case rel => exact ⟨k + 1, HLT.out, by go_num, HD2⟩
              case measure =>
                have := HLT.out
                simp [intOf]
                omega
            · have hkm : k - 1 < b.nums.length := by omega
              have n2 : W2.cell? (ad3.add (k - 1)) = some (.int .i64 b.nums[k - 1]) := hncell (k - 1) _ (by rw [numV, List.getElem?_map, List.getElem?_eq_getElem hkm]; rfl)
              obtain ⟨y, hye⟩ : ∃ y, b.nums[k - 1] = y := ⟨_, rfl⟩
              have hyd : b.nums.getD (k - 1) 0 = y := by rw [List.getD_eq_getElem?_getD, List.getElem?_eq_getElem hkm, ← hye]; rfl
              rw [hye] at n2
              rw [hyd] at HD1
              have hz1 : (0 : Int) < (k : Nat) := by omega
              have hz2 : 0 < k := by omega
              have i0 : IntKind.i64.wrap ((k : Int) - 1) = (k : Int) - 1 := IntWalk.i64_in _ (by have := HBX.out.2.2.1; unfold maxLen at this; omega)
              have i1 : ((k : Int) - 1).toNat = k - 1 := by omega
              have i2 : (0 : Int) ≤ (k : Int) - 1 := by omega
              have i3 : (k : Int) - 1 < (b.nums.length : Nat) := by omega
              clear hncell hxe hye hyd hkm hz
              by_cases hxy : x ≤ y
              · have HK := Lib.hid (show rowsF loops (bounds.take i) b = 7 by have h := HD1.out.trans (if_pos ⟨by omega, hxy⟩); rw [HQ1.out, h, if_pos (by decide)])
                go_wp2_with (go_at_call 23; refine (outside_any _ _ _ _).mono ?_; rintro e w' ⟨rfl, rfl⟩)
                go_ret
                exact ⟨ret_int (by rw [HK.out]), hbw2⟩
              · have HD2 := Lib.hid (HD1.out.trans (if_neg (fun h => hxy h.2)))
                go_wp2_with (go_at_call 23; refine (outside_any _ _ _ _).mono ?_; rintro e w' ⟨rfl, rfl⟩)
                go_round
                case rel => exact ⟨k + 1, HLT.out, by go_num, HD2⟩
                case measure =>
                  have := HLT.out
                  simp [intOf]
                  omega
        · have HQ := Lib.hid (show rowsF loops (bounds.take i) b = (match (bounds.take i).getLast? with | none => 0 | some p => followF b.nm b.row p.nm p.row) by rw [HQ1.out, HD.out, List.drop_eq_nil_of_le (by omega), numsF, if_neg (by decide)])
          clear HD
          by_cases h0 : i = 0
          · have bg : ((i : Int) == 0) = true := by simp; omega
            have HK := Lib.hid (show rowsF loops (bounds.take i) b = 0 by rw [HQ.out, h0]; rfl)
            clear h0
            go_wp2_with fail
            go_ret
            exact ⟨ret_int (by rw [HK.out]), hbw2⟩
          · have bg : ((i : Int) == 0) = false := by simp; omega
            have hp1 : i - 1 < bounds.length := by omega
            obtain ⟨ad2, pi, had2, -, hpi, hpcell⟩ := (HL.out.1.keep (hbw2.mono HL.out.2)).at_ hp1
            injection had2 with had2
            subst had2
            obtain ⟨p, hpe⟩ : ∃ p, bounds[i - 1] = p := ⟨_, rfl⟩
            rw [hpe] at hpi
            have HK := Lib.hid (show rowsF loops (bounds.take i) b = followF b.nm b.row p.nm p.row by
              rw [HQ.out, show (bounds.take i).getLast? = some p by rw [List.getLast?_eq_getElem?, List.getElem?_take, List.length_take, if_pos (by omega), show min i bounds.length - 1 = i - 1 by omega, List.getElem?_eq_getElem hp1, hpe]])
            obtain ⟨⟨A5, c5, A6, c6, rfl, hpr1, hpr2⟩, hp2, hp3, hp4⟩ := hpi
            have pc0 : W2.cell? (ad.add ((i - 1) * 3)) = some (.string p.nm) := hpcell 0 _ rfl
            have pc1 : W2.cell? ⟨(ad.add ((i - 1) * 3)).block, (ad.add ((i - 1) * 3)).off + 1, none⟩ = some (.slice A5 p.row.length c5) := hpcell 1 _ rfl
            have i0 : IntKind.i64.wrap ((i : Int) - 1) = (i : Int) - 1 := IntWalk.i64_in _ (by omega)
            have i1 : ((i : Int) - 1).toNat = i - 1 := by omega
            have i2 : (0 : Int) ≤ (i : Int) - 1 := by omega
            have i3 : (i : Int) - 1 < (bounds.length : Nat) := by omega
            have k1 : ∀ w', Below W2.heap.size W2 w' → Calls Tryz.prog 68 #[.string b.nm, .slice A1 b.row.length c1, .string p.nm, .slice A5 p.row.length c5] w' fun e w'' => e = .returned (.int .i64 (followF b.nm b.row p.nm p.row)) ∧ Below w'.heap.size w' w'' := fun w' hb' =>
              follows_any b.nm p.nm b.row p.row A1 A5 c1 c5 B w' HBX.out.2.1 hp3 (HBX.out.2.2.2.1.below ((hbw2.mono HL.out.2).trans (hb'.mono (Nat.le_trans HL.out.2 hbw2.size)))) (hpr1.below (hb'.mono (Nat.le_trans HL.out.2 hbw2.size))) (Nat.le_trans (Nat.le_trans HL.out.2 hbw2.size) hb'.size)
            have K1 := Lib.hid (Later.call k1)
            have q0 := Later.cell pc0
            have q1 := Later.cell pc1
            have q2 := Later.cell (show W2.cell? ⟨w.heap.size, 0, none⟩ = some (.string b.nm) from by assumption)
            have q3 := Later.cell (show W2.cell? ⟨w.heap.size, 1, none⟩ = some (.slice A1 b.row.length c1) from by assumption)
            clear k1 hpcell hpe hpr1 hpr2 hp2 hp3 hp4  h0 hp1 pc0 pc1
            go_upto_region 18 with (fail)
            refine wp_region_later (by kernel_rfl) (by kernel_rfl) ?_
            repeat (go_big_quiet_step (with_reducible exact K1.out _))
            refine wpQuiet_nil ?_
            intro W9 hw'
            have hb9 := later_h hw'
            clear hw'
            go_wp2_with fail
            go_ret
            exact ⟨ret_int (by rw [HK.out]), hbw2.trans (hb9.mono hbw2.size)⟩
end Go.Proofs.YtpanbeoelbhhgaaGreatDoor
namespace Go.Proofs.YtpanbeoelbhhgaaGreatDoor
open Go.RowKit
attribute [local go_sem ↓] Go.wp_at_zero Go.wp_at_succ
/-- what SightOf hands back -/
structure SiR (en : Ending) (w w' : World) (B : Nat) (cells : List CellD) (loops : List NestD) (bounds : List BoundD) (rows : List RowD) : Prop where
  ex : ∃ p, en = .returned (.tuple #[.pointer p, .int .i64 (sceneF cells loops bounds rows)]) ∧ (sceneF cells loops bounds rows = 0 → ∃ gs m1 m2 m3 m4 kv1 kv2 kv3 kv4, p = some ⟨gs, 0, none⟩ ∧ SiAt w' B gs m1 m2 m3 m4 kv1 kv2 kv3 kv4 cells loops bounds rows ∧ w.heap.size ≤ m3 ∧ w.heap.size ≤ m4 ∧ w.heap.size ≤ gs)
  hb : Below w.heap.size w w'
theorem SiR.bad {en : Ending} {w w' : World} {B : Nat} {cells : List CellD} {loops : List NestD} {bounds : List BoundD} {rows : List RowD} (h : sceneF cells loops bounds rows ≠ 0) (he : en = .returned (.tuple #[.pointer none, .int .i64 (sceneF cells loops bounds rows)])) (hb : Below w.heap.size w w') : SiR en w w' B cells loops bounds rows :=
  ⟨⟨none, he, fun h0 => absurd h0 h⟩, hb⟩
set_option maxHeartbeats 8000000 in
set_option maxRecDepth 100000 in
theorem sightOf_any (cells : List CellD) (loops : List NestD) (bounds : List BoundD) (rows : List RowD) (AC AN AB AR : Option Addr) (cc cn cb cr B : Nat) (w : World) (hC : CellsAt w B AC cells) (hN : NestsAt w B AN loops) (hLb : BoundsAt w B AB bounds) (hLr : RowssAt w B AR rows) (hCL : ∀ d ∈ cells, d.loops.length ≤ 1048576) (hNL : ∀ d ∈ loops, d.loops.length ≤ 1048576) (hB : B ≤ w.heap.size) (htab : Tab10 w) :
    Calls Tryz.prog 14 #[.agg #[.slice AC cells.length cc, .slice AN loops.length cn, .slice AB bounds.length cb, .slice AR rows.length cr]] w fun en w' => SiR en w w' B cells loops bounds rows := by
  have HL := Lib.hid (And.intro hC (And.intro hN (And.intro hLb (And.intro hLr hB))))
  have BAt := Lib.hid hLb
  have RAt := Lib.hid hLr
  have HCL := Lib.hid hCL
  have HNL := Lib.hid hNL
  have HTB := Lib.hid htab
  have hlb := hLb.1
  have hlr := hLr.1
  unfold maxLen at hlb hlr
  have hmm := @run_makeMap Tryz.prog
  clear hC hN hLb hLr hCL hNL hB htab
  go_enter Tryz.func14, Tryz.ntmps14
  go_upto_region 1 with (fail)
  obtain ⟨W, hW⟩ : ∃ W, W = (w.alloc (.cells #[.slice AC cells.length cc, .slice AN loops.length cn, .slice AB bounds.length cb, .slice AR rows.length cr] 33 (0, 0))) := ⟨_, rfl⟩
  have hbw : Below w.heap.size w W := by rw [hW]; exact ((Below.refl _ w).alloc (Nat.le_refl _) _)
  have B0 : Blk W (w.heap.size) 33 #[.slice AC cells.length cc, .slice AN loops.length cn, .slice AB bounds.length cb, .slice AR rows.length cr] := by
    rw [hW]
    have := Blk.new w 33 #[.slice AC cells.length cc, .slice AN loops.length cn, .slice AB bounds.length cb, .slice AR rows.length cr]
    exact this
  have hsz : W.heap.size = w.heap.size + 1 := by rw [hW]; simp
  rw [← hW]
  have sc0 : W.cell? ⟨w.heap.size, 0, none⟩ = some (.slice AC cells.length cc) := B0.cell 0
  have sc1 : W.cell? ⟨w.heap.size, 1, none⟩ = some (.slice AN loops.length cn) := B0.cell 1
  have sc2 : W.cell? ⟨w.heap.size, 2, none⟩ = some (.slice AB bounds.length cb) := B0.cell 2
  have sc3 : W.cell? ⟨w.heap.size, 3, none⟩ = some (.slice AR rows.length cr) := B0.cell 3
  clear hW hsz
  have hsB := Nat.le_trans HL.out.2.2.2.2 hbw.size
  have HWO := Lib.hid (worldOf_any cells loops AC cc AN cn B W (HL.out.1.keep (hbw.mono HL.out.2.2.2.2)) (HL.out.2.1.keep (hbw.mono HL.out.2.2.2.2)) hsB)
  go_wp2_with fail
  refine HWO.out.mono ?_
  rintro en W1 ⟨⟨f, rfl, hf, hmap⟩, hb1⟩
  have HMAP := Lib.hid hmap
  have HWF := Lib.hid hf.symm
  have hbw1 := hbw.trans (hb1.mono hbw.size)
  have hsz1 := hb1.size
  have B0 := B0.below hb1 B0.lt
  clear hf hmap HWO sc0 sc1 sc2 sc3 hb1
  go_upto_region 2 with (fail)
  obtain ⟨W2, hW2⟩ : ∃ W2, W2 = W1.alloc (.cells #[.map (some (W.heap.size + 1)), .map (some (W.heap.size + 1 + 1))] 57 (0, 0)) := ⟨_, rfl⟩
  have hb2 : Below W1.heap.size W1 W2 := hW2 ▸ (Below.refl _ W1).alloc (Nat.le_refl _) _
  have B2 : Blk W2 W1.heap.size 57 #[.map (some (W.heap.size + 1)), .map (some (W.heap.size + 1 + 1))] := hW2 ▸ Blk.new W1 _ _
  have hbw2 := hbw1.trans (hb2.mono hbw1.size)
  have B0 := B0.below hb2 B0.lt
  have hs2 : W1.heap.size < W2.heap.size := by rw [hW2]; simp
  rw [← hW2]
  by_cases h0 : f = 0
  rotate_left
  · have bg : (f != 0) = true := by simpa using h0
    have HK := Lib.hid (show sceneF cells loops bounds rows = f by unfold sceneF; rw [HWF.out, if_pos h0])
    have H0 := Lib.hid h0
    clear h0 hW2
    go_wp2_with fail
    go_ret2
    exact SiR.bad (by rw [HK.out]; exact H0.out) (by rw [HK.out]; try rfl) hbw2
  subst h0
  obtain ⟨kv1, kv2, hm1, hm2, hkc, hkn⟩ := HMAP.out rfl
  have HTY := Lib.hid (show TyW W2 B (W.heap.size + 1) (W.heap.size + 1 + 1) kv1 kv2 cells loops from TyW.keep ⟨hm1, hkc, hm2, hkn⟩ hb2 (Nat.le_trans HL.out.2.2.2.2 hbw1.size))
  have HMLT := Lib.hid (And.intro hm1.lt hm2.lt)
  have HWK := Lib.hid (world_ok HWF.out)
  clear hm1 hm2 hkc hkn HMAP hW2
  have sc0 : W2.cell? ⟨w.heap.size, 0, none⟩ = some (.slice AC cells.length cc) := B0.cell 0
  have sc1 : W2.cell? ⟨w.heap.size, 1, none⟩ = some (.slice AN loops.length cn) := B0.cell 1
  have sc2 : W2.cell? ⟨w.heap.size, 2, none⟩ = some (.slice AB bounds.length cb) := B0.cell 2
  have sc3 : W2.cell? ⟨w.heap.size, 3, none⟩ = some (.slice AR rows.length cr) := B0.cell 3
  have uc0 : W2.cell? ⟨W1.heap.size, 0, none⟩ = some (.map (some (W.heap.size + 1))) := B2.cell 0
  have uc1 : W2.cell? ⟨W1.heap.size, 1, none⟩ = some (.map (some (W.heap.size + 1 + 1))) := B2.cell 1
  by_cases hlb1 : 20000 < bounds.length
  · have hlb2 : (20000 : Int) < (bounds.length : Nat) := by omega
    have HK := Lib.hid (show sceneF cells loops bounds rows = 2 by unfold sceneF; rw [HWF.out, if_neg (by decide), if_pos (.inl hlb1)])
    go_wp2_with fail
    go_ret2
    exact SiR.bad (by rw [HK.out]; decide) (by rw [HK.out]; try rfl) hbw2
  have hlb2 : ¬ (20000 : Int) < (bounds.length : Nat) := by omega
  by_cases hlr1 : 20000 < rows.length
  · have hlr2 : (20000 : Int) < (rows.length : Nat) := by omega
    have HK := Lib.hid (show sceneF cells loops bounds rows = 2 by unfold sceneF; rw [HWF.out, if_neg (by decide), if_pos (.inr hlr1)])
    go_wp2_with fail
    go_ret2
    exact SiR.bad (by rw [HK.out]; decide) (by rw [HK.out]; try rfl) hbw2
  have hlr2 : ¬ (20000 : Int) < (rows.length : Nat) := by omega
  have HLEN := Lib.hid (show ¬ (20000 < bounds.length ∨ 20000 < rows.length) by omega)
  clear hlb1 hlr1 hb2
  go_upto_region 7 with (fail)
  have hwW2 := B0.lt
  obtain ⟨W5, hW5⟩ : ∃ W5, W5 = (W2.alloc (.map #[] 0)).alloc (.map #[] 0) := ⟨_, rfl⟩
  have s5 : W5.heap.size = W2.heap.size + 1 + 1 := by rw [hW5]; simp
  have hb5 : Below W2.heap.size W2 W5 := hW5 ▸ ((Below.refl _ W2).alloc (Nat.le_refl _) _).alloc (by simp) _
  obtain ⟨W6, hW6⟩ : ∃ W6, W6 = W5.alloc (.cells #[.map (some (W.heap.size + 1)), .map (some (W.heap.size + 1 + 1)), .map (some W2.heap.size), .map (some (W2.heap.size + 1))] 61 (0, 0)) := ⟨_, rfl⟩
  have hb6 : Below W5.heap.size W5 W6 := hW6 ▸ (Below.refl _ W5).alloc (Nat.le_refl _) _
  have hb26 := hb5.trans (hb6.mono hb5.size)
  have k1 : MapIs W6 W2.heap.size [] := by rw [hW6, hW5]; exact ((MapIs.made W2).alloc _).alloc _
  have k2 : MapIs W6 (W2.heap.size + 1) [] := by
    have h := MapIs.made (W2.alloc (.map #[] 0))
    rw [World.size_alloc] at h
    rw [hW6, hW5]
    exact h.alloc _
  have k3 : Blk W6 (W2.heap.size + 1 + 1) 61 #[.map (some (W.heap.size + 1)), .map (some (W.heap.size + 1 + 1)), .map (some W2.heap.size), .map (some (W2.heap.size + 1))] := by
    have h := Blk.new W5 61 #[.map (some (W.heap.size + 1)), .map (some (W.heap.size + 1 + 1)), .map (some W2.heap.size), .map (some (W2.heap.size + 1))]
    rw [← hW6, s5] at h
    exact h
  have hbw6 := hbw2.trans (hb26.mono hbw2.size)
  have HSI := Lib.hid (show SiAt W6 B (W2.heap.size + 1 + 1) (W.heap.size + 1) (W.heap.size + 1 + 1) W2.heap.size (W2.heap.size + 1) kv1 kv2 [] [] cells loops [] [] from
    ⟨k3, HTY.out.keep hb26 (Nat.le_trans HL.out.2.2.2.2 hbw2.size), k1, k2, ⟨.nil⟩, ⟨.nil⟩, by
      have h1 := HMLT.out.1
      have h2 := HMLT.out.2
      have h3 := HL.out.2.2.2.2
      refine ⟨by omega, by omega, by omega, by omega, by omega, by omega, by omega, by omega, by omega, Nat.le_trans h3 hbw6.size⟩⟩)
  have HB0 := Lib.hid (B0.below hb26 B0.lt)
  have sc6 : W6.cell? ⟨w.heap.size, 2, none⟩ = some (.slice AB bounds.length cb) := HB0.out.cell 2
  rw [← hW5, ← hW6]
  clear hW5 hW6 k1 k2 k3 hb5 hb6 hb26 s5 B0 B2 sc0 sc1 sc2 sc3 uc0 uc1 hmm
  go_wp2_with fail
  clear sc6
  go_loopw [42, 7, 8, 9] (fun i _ _ _ wr => ∃ (k : Nat) (kv3 : List (ByteArray × Value)), k ≤ bounds.length ∧ i = .int .i64 k ∧ Hid (SiAt wr B (W2.heap.size + 1 + 1) (W.heap.size + 1) (W.heap.size + 1 + 1) W2.heap.size (W2.heap.size + 1) kv1 kv2 kv3 [] cells loops (bounds.take k) []) ∧ Hid (Blk wr w.heap.size 33 #[.slice AC cells.length cc, .slice AN loops.length cn, .slice AB bounds.length cb, .slice AR rows.length cr]) ∧ Hid (firstF (boundF cells) [] bounds = firstF (boundF cells) (bounds.take k) (bounds.drop k)) ∧ Below w.heap.size w wr) (fun i _ _ _ _ => bounds.length - (intOf i).toNat)
  case atStart => exact ⟨0, [], Nat.zero_le _, rfl, HSI, HB0, Lib.hid rfl, hbw6⟩
  case round =>
    clear HSI HB0 hbw6
    obtain ⟨k, kv3, hk, rfl, HSI, HB0, HD, hbr⟩ := hrel
    have hsr := hbr.size
    have hBr := hbr.mono HL.out.2.2.2.2
    have C0 := HB0.out
    have HMW := Lib.hid HSI.out.m3m.lt
    have sk2 : wr.cell? ⟨w.heap.size, 2, none⟩ = some (.slice AB bounds.length cb) := C0.cell 2
    by_cases hlt : k < bounds.length
    · obtain ⟨ad, ci, had, hb, hci, hcell⟩ := (BAt.out.keep hBr).at_ hlt
      subst had
      obtain ⟨b, hbe⟩ : ∃ b, bounds[k] = b := ⟨_, rfl⟩
      have HDD := Lib.hid (firstF_step (boundF cells) bounds k hlt)
      have HLAW := Lib.hid (fun w' (h1 : SiAt w' B (W2.heap.size + 1 + 1) (W.heap.size + 1) (W.heap.size + 1 + 1) W2.heap.size (W2.heap.size + 1) kv1 kv2 kv3 [] cells loops (bounds.take k) []) (h2 : Below B w w') => boundFault_any cells loops kv1 kv2 (W.heap.size + 1) (W.heap.size + 1 + 1) W2.heap.size (W2.heap.size + 1) (W2.heap.size + 1 + 1) B bounds (some ad) cb k hlt w' h1.blk h1.ty (BAt.out.keep h2) h1.ne.2.2.2.2.2.2.2.2.2)
      rw [hbe] at hci HDD HLAW
      have HBE := Lib.hid hbe
      have hbc := hci
      obtain ⟨⟨A1, c1, A2, c2, rfl, hr1, hr2⟩, hx1, hx2, hx3, hx4⟩ := hci
      have HBC := Lib.hid hbc
      have HBX := Lib.hid (And.intro hr1 (And.intro hr2 hx3))
      have HLT := Lib.hid hlt
      have fc0 : wr.cell? (ad.add (k * 7)) = some (.string b.nm) := hcell 0 _ rfl
      have fc1 : wr.cell? ⟨(ad.add (k * 7)).block, (ad.add (k * 7)).off + 1, none⟩ = some (.slice A1 b.row.length c1) := hcell 1 _ rfl
      have fc2 : wr.cell? ⟨(ad.add (k * 7)).block, (ad.add (k * 7)).off + 2, none⟩ = some (.int .i64 b.v.k) := hcell 2 _ rfl
      have fc3 : wr.cell? ⟨(ad.add (k * 7)).block, (ad.add (k * 7)).off + 3, none⟩ = some (.int .i64 b.v.n) := hcell 3 _ rfl
      have fc4 : wr.cell? ⟨(ad.add (k * 7)).block, (ad.add (k * 7)).off + 4, none⟩ = some (.string b.v.s) := hcell 4 _ rfl
      have fc5 : wr.cell? ⟨(ad.add (k * 7)).block, (ad.add (k * 7)).off + 5, none⟩ = some (.slice A2 b.v.l.length c2) := hcell 5 _ rfl
      have fc6 : wr.cell? ⟨(ad.add (k * 7)).block, (ad.add (k * 7)).off + 6, none⟩ = some (.bool b.asked) := hcell 6 _ rfl
      have hk0 : (0 : Int) ≤ (k : Nat) := by omega
      have hk1 : (k : Int) < (bounds.length : Nat) := by omega
      clear hcell hbe hbc hr1 hr2 hx1 hx2 hx3 hx4 hb
      go_upto_region 10 with (fail)
      obtain ⟨W3, hW3⟩ : ∃ W3, W3 = wr.alloc (.cells #[.string b.nm, .slice A1 b.row.length c1, .int .i64 b.v.k, .int .i64 b.v.n, .string b.v.s, .slice A2 b.v.l.length c2, .bool b.asked] 88 (0, 0)) := ⟨_, rfl⟩
      have hb3 : Below wr.heap.size wr W3 := hW3 ▸ (Below.refl _ wr).alloc (Nat.le_refl _) _
      have B8 : Blk W3 wr.heap.size 88 #[.string b.nm, .slice A1 b.row.length c1, .int .i64 b.v.k, .int .i64 b.v.n, .string b.v.s, .slice A2 b.v.l.length c2, .bool b.asked] := hW3 ▸ Blk.new wr _ _
      rw [← hW3]
      clear hW3 fc0 fc1 fc2 fc3 fc4 fc5 fc6 sk2
      have C0 := C0.below hb3 C0.lt
      have sl2 : W3.cell? ⟨w.heap.size, 2, none⟩ = some (.slice (some ad) bounds.length cb) := C0.cell 2
      have HSI3 := Lib.hid (HSI.out.keep hb3)
      have hbw3 := hbr.trans (hb3.mono hsr)
      obtain ⟨f1, hf1⟩ : ∃ f, boundF cells (bounds.take k) b = f := ⟨_, rfl⟩
      have HF1 := Lib.hid hf1
      have HLW := Lib.hid (HLAW.out W3 HSI3.out (hbw3.mono HL.out.2.2.2.2))
      rw [hf1] at HLW HDD
      clear hf1
      go_wp2_with fail
      refine HLW.out.mono ?_
      rintro en W4 ⟨rfl, hb4⟩
      have hbw4 := hbw3.trans (hb4.mono hbw3.size)
      have C0 := C0.below hb4 C0.lt
      have B8 := B8.below hb4 B8.lt
      have HSI4 := Lib.hid (HSI3.out.keep hb4)
      have HB4 := Lib.hid (show Below B wr W4 from (hb3.trans (hb4.mono hb3.size)).mono (Nat.le_trans HL.out.2.2.2.2 hsr))
      clear hb4 hb3 sl2 HLW HLAW HSI3 HSI
      by_cases h0 : f1 = 0
      rotate_left
      · have bg : (f1 != 0) = true := by simpa using h0
        have HK := Lib.hid (show sceneF cells loops bounds rows = f1 by unfold sceneF; rw [HWF.out, if_neg (by decide), if_neg HLEN.out, HD.out, HDD.out, if_pos h0, if_pos h0])
        have H0 := Lib.hid h0
        clear h0 B8 C0
        go_wp2_with fail
        go_ret2
        exact SiR.bad (by rw [HK.out]; exact H0.out) (by rw [HK.out]; try rfl) hbw4
      subst h0
      obtain ⟨ok1, ok2, ok3⟩ := bound_ok HWK.out.1 HCL.out HF1.out
      have hkey : (bKey b).size ≤ 100000000 := by
        have h := rowKeyL_len b.nm.data.toList b.row ok3
        have h2 : b.nm.data.toList.length ≤ 16 := by simpa using ok1
        have h3 : (bKey b).size = (rowKeyL b.nm.data.toList b.row).length := by simp [bKey, ByteArray.size]
        omega
      have HKY := Lib.hid hkey
      have hB4 := hbw4.mono HL.out.2.2.2.2
      have hs4 := Nat.le_trans HL.out.2.2.2.2 hbw4.size
      have K1 := Lib.hid (show ∀ w', Below W4.heap.size W4 w' → Calls Tryz.prog 35 #[.string b.nm, .slice A1 b.row.length c1] w' fun en w'' => en = .returned (.string (bKey b)) ∧ Below W4.heap.size W4 w'' from fun w' hb =>
        (rowKey_any b.nm b.row A1 c1 B w' (by omega) ok2 ok3 (HBX.out.1.below ((Below.refl B wr).trans (show Below B wr w' from (show Below B wr W4 from HB4.out).trans (hb.mono hs4)))) (Nat.le_trans hs4 hb.size) (HTB.out.below (hbw4.trans (hb.mono hbw4.size)))).mono fun _ _ ⟨he, hk⟩ => ⟨he, hb.trans (hk.mono hb.size)⟩)
      have HPUT := Lib.hid (show ∀ w1, Below W4.heap.size W4 w1 → ∃ w2, (Instr.mapUpdate 58 (.map (some W2.heap.size)) (.string (bKey b)) (.agg #[.string b.nm, .slice A1 b.row.length c1, .int .i64 b.v.k, .int .i64 b.v.n, .string b.v.s, .slice A2 b.v.l.length c2, .bool b.asked])).run Tryz.prog w1 = .ok () w2 ∧ MapIs w2 W2.heap.size ((bKey b, .agg #[.string b.nm, .slice A1 b.row.length c1, .int .i64 b.v.k, .int .i64 b.v.n, .string b.v.s, .slice A2 b.v.l.length c2, .bool b.asked]) :: kv3) ∧ w1.grownBy w2 (some W2.heap.size) from fun w1 hb =>
        (HSI4.out.keep hb).m3m.put Tryz.underlying58 (by have h := HSI4.out.kb.len; rw [h, List.length_take]; have := HLEN.out; unfold maxLen; omega) (by have := HKY.out; unfold maxLen; omega) _)
      have zz : W4.cell? ⟨(W2.heap.size + 1 + 1), 2, none⟩ = some (.map (some W2.heap.size)) := HSI4.out.blk.cell 2
      have hgm : (W2.heap.size + 1 + 1) ≠ W2.heap.size := HSI4.out.ne.1
      have y0 : W4.cell? ⟨wr.heap.size, 0, none⟩ = some (.string b.nm) := B8.cell 0
      have y1 : W4.cell? ⟨wr.heap.size, 1, none⟩ = some (.slice A1 b.row.length c1) := B8.cell 1
      have y2 : W4.cell? ⟨wr.heap.size, 2, none⟩ = some (.int .i64 b.v.k) := B8.cell 2
      have y3 : W4.cell? ⟨wr.heap.size, 3, none⟩ = some (.int .i64 b.v.n) := B8.cell 3
      have y4 : W4.cell? ⟨wr.heap.size, 4, none⟩ = some (.string b.v.s) := B8.cell 4
      have y5 : W4.cell? ⟨wr.heap.size, 5, none⟩ = some (.slice A2 b.v.l.length c2) := B8.cell 5
      have y6 : W4.cell? ⟨wr.heap.size, 6, none⟩ = some (.bool b.asked) := B8.cell 6
      have hmw : W2.heap.size < wr.heap.size := HMW.out
      have HS := Lib.hid (show ∀ w', Below W4.heap.size W4 w' → w'.cell? ⟨(W2.heap.size + 1 + 1), 2, none⟩ = some (.map (some W2.heap.size)) ∧ w'.cell? ⟨wr.heap.size, 0, none⟩ = some (.string b.nm) ∧ w'.cell? ⟨wr.heap.size, 1, none⟩ = some (.slice A1 b.row.length c1) ∧ w'.cell? ⟨wr.heap.size, 2, none⟩ = some (.int .i64 b.v.k) ∧ w'.cell? ⟨wr.heap.size, 3, none⟩ = some (.int .i64 b.v.n) ∧ w'.cell? ⟨wr.heap.size, 4, none⟩ = some (.string b.v.s) ∧ w'.cell? ⟨wr.heap.size, 5, none⟩ = some (.slice A2 b.v.l.length c2) ∧ w'.cell? ⟨wr.heap.size, 6, none⟩ = some (.bool b.asked) from fun w' hb => ⟨Below.cell_of hb zz, Below.cell_of hb y0, Below.cell_of hb y1, Below.cell_of hb y2, Below.cell_of hb y3, Below.cell_of hb y4, Below.cell_of hb y5, Below.cell_of hb y6⟩)
      have HS2 := Lib.hid (show ∀ w1 w2, Below W4.heap.size W4 w1 → w1.grownBy w2 (some W2.heap.size) → w2.cell? ⟨(W2.heap.size + 1 + 1), 2, none⟩ = some (.map (some W2.heap.size)) ∧ w2.cell? ⟨wr.heap.size, 0, none⟩ = some (.string b.nm) ∧ w2.cell? ⟨wr.heap.size, 1, none⟩ = some (.slice A1 b.row.length c1) ∧ w2.cell? ⟨wr.heap.size, 2, none⟩ = some (.int .i64 b.v.k) ∧ w2.cell? ⟨wr.heap.size, 3, none⟩ = some (.int .i64 b.v.n) ∧ w2.cell? ⟨wr.heap.size, 4, none⟩ = some (.string b.v.s) ∧ w2.cell? ⟨wr.heap.size, 5, none⟩ = some (.slice A2 b.v.l.length c2) ∧ w2.cell? ⟨wr.heap.size, 6, none⟩ = some (.bool b.asked) from fun w1 w2 hb hg => by
        have hk := HS.out w1 hb
        have hlt8 := Nat.lt_of_lt_of_le B8.lt hb.size
        have hltg := Nat.lt_of_lt_of_le HSI4.out.blk.lt hb.size
        refine ⟨(hg.cell_far _ hltg (fun e => hgm (Option.some.inj e))).trans hk.1, (hg.cell_far _ hlt8 (fun e => (by have h : wr.heap.size = W2.heap.size := Option.some.inj e; omega))).trans hk.2.1, (hg.cell_far _ hlt8 (fun e => (by have h : wr.heap.size = W2.heap.size := Option.some.inj e; omega))).trans hk.2.2.1, (hg.cell_far _ hlt8 (fun e => (by have h : wr.heap.size = W2.heap.size := Option.some.inj e; omega))).trans hk.2.2.2.1, (hg.cell_far _ hlt8 (fun e => (by have h : wr.heap.size = W2.heap.size := Option.some.inj e; omega))).trans hk.2.2.2.2.1, (hg.cell_far _ hlt8 (fun e => (by have h : wr.heap.size = W2.heap.size := Option.some.inj e; omega))).trans hk.2.2.2.2.2.1, (hg.cell_far _ hlt8 (fun e => (by have h : wr.heap.size = W2.heap.size := Option.some.inj e; omega))).trans hk.2.2.2.2.2.2.1, (hg.cell_far _ hlt8 (fun e => (by have h : wr.heap.size = W2.heap.size := Option.some.inj e; omega))).trans hk.2.2.2.2.2.2.2⟩)
      have hq0 : Below W4.heap.size W4 W4 := Below.refl _ _
      clear zz y0 y1 y2 y3 y4 y5 y6
      go_upto_region 13 with (fail)
      go_region_held3 (fun w' => w'.cell? ⟨(W2.heap.size + 1 + 1), 2, none⟩ = some (.map (some W2.heap.size)) ∧ w'.cell? ⟨wr.heap.size, 0, none⟩ = some (.string b.nm) ∧ w'.cell? ⟨wr.heap.size, 1, none⟩ = some (.slice A1 b.row.length c1) ∧ w'.cell? ⟨wr.heap.size, 2, none⟩ = some (.int .i64 b.v.k) ∧ w'.cell? ⟨wr.heap.size, 3, none⟩ = some (.int .i64 b.v.n) ∧ w'.cell? ⟨wr.heap.size, 4, none⟩ = some (.string b.v.s) ∧ w'.cell? ⟨wr.heap.size, 5, none⟩ = some (.slice A2 b.v.l.length c2) ∧ w'.cell? ⟨wr.heap.size, 6, none⟩ = some (.bool b.asked))
        (first | exact HS.out _ hq0.drew | exact HS.out _ hq1 | exact HS2.out _ _ hq1 hg2 | exact HS2.out _ _ hq1 hg2)
        (first | (go_at_call 35; (with_reducible refine (K1.out _ hq0.drew).mono ?_); rintro e1 w1 ⟨rfl, hq1⟩; obtain ⟨w2, hrun, hm2, hg2⟩ := HPUT.out w1 hq1))
      all_goals
        have HB5 := Lib.hid (show Below B wr w1 from HB4.out.trans (hq1.mono hs4))
        have e1 : bounds.take k ++ [b] = bounds.take (k + 1) := by rw [List.take_succ_eq_append_getElem HLT.out, HBE.out]
        have HSI5 := Lib.hid (show SiAt w2 B (W2.heap.size + 1 + 1) (W.heap.size + 1) (W.heap.size + 1 + 1) W2.heap.size (W2.heap.size + 1) kv1 kv2 ((bKey b, .agg #[.string b.nm, .slice A1 b.row.length c1, .int .i64 b.v.k, .int .i64 b.v.n, .string b.v.s, .slice A2 b.v.l.length c2, .bool b.asked]) :: kv3) [] cells loops (bounds.take (k + 1)) [] from by
          have h := (HSI4.out.keep hq1).put3 hg2 (HBC.out.keep HB5.out) hm2
          rw [e1] at h
          exact h)
        have HB6 := Lib.hid ((C0.below hq1 C0.lt).grown hg2 (fun e => (by have h : w.heap.size = W2.heap.size := Option.some.inj e; have := hwW2; omega)))
        have hbw7 : Below w.heap.size w w2 := (hbw4.trans (hq1.mono hbw4.size)).grown hg2 (Nat.le_trans hbw4.size hq1.size) (fun g hg => (by have h : W2.heap.size = g := Option.some.inj hg; have := hwW2; omega))
        have HD7 := Lib.hid (HD.out.trans (HDD.out.trans (if_neg (fun h => h rfl))))
        clear e1 hq0 hq1 hm2 hg2 hrun HS HS2 K1 HPUT B8 C0 hmw hgm hkey ok1 ok2 ok3
        go_wp2_with fail
        go_roundw
        case rel => exact ⟨k + 1, _, HLT.out, by go_num, HSI5, HB6, HD7, hbw7⟩
        case measure =>
          have := HLT.out
          simp [intOf]
          omega
    · have hke : bounds.take k = bounds := List.take_of_length_le (by omega)
      have HE := Lib.hid (show firstF (boundF cells) [] bounds = 0 by rw [HD.out, List.drop_eq_nil_of_le (by omega)]; rfl)
      have HSI := Lib.hid (show SiAt wr B (W2.heap.size + 1 + 1) (W.heap.size + 1) (W.heap.size + 1 + 1) W2.heap.size (W2.heap.size + 1) kv1 kv2 kv3 [] cells loops bounds [] by have h := HSI.out; rwa [hke] at h)
      clear hke HD
      have HS1 := Lib.hid (show sceneF cells loops bounds rows = firstF (rowsF loops) [] rows by unfold sceneF; rw [HWF.out, if_neg (by decide), if_neg HLEN.out, HE.out, if_neg (by decide)])
      have hbw6 := hbr
      have skk : wr.cell? ⟨w.heap.size, 3, none⟩ = some (.slice AR rows.length cr) := C0.cell 3
      go_upto_region 15 with (fail)
      go_wp2_with fail
      clear skk C0 HMW
      go_loopw [69, 10, 11, 12] (fun i _ _ _ wr => ∃ (k : Nat) (kv4 : List (ByteArray × Value)), k ≤ rows.length ∧ i = .int .i64 k ∧ Hid (SiAt wr B (W2.heap.size + 1 + 1) (W.heap.size + 1) (W.heap.size + 1 + 1) W2.heap.size (W2.heap.size + 1) kv1 kv2 kv3 kv4 cells loops bounds (rows.take k)) ∧ Hid (Blk wr w.heap.size 33 #[.slice AC cells.length cc, .slice AN loops.length cn, .slice AB bounds.length cb, .slice AR rows.length cr]) ∧ Hid (firstF (rowsF loops) [] rows = firstF (rowsF loops) (rows.take k) (rows.drop k)) ∧ Below w.heap.size w wr) (fun i _ _ _ _ => rows.length - (intOf i).toNat)
      case atStart => exact ⟨0, [], Nat.zero_le _, rfl, HSI, HB0, Lib.hid rfl, hbw6⟩
      case round =>
        clear HSI HB0 hbw6
        obtain ⟨k, kv4, hk, rfl, HSI, HB0, HD, hbr⟩ := hrel
        have hsr := hbr.size
        have hBr := hbr.mono HL.out.2.2.2.2
        have C0 := HB0.out
        have HMW := Lib.hid HSI.out.m4m.lt
        have sk3 : wr.cell? ⟨w.heap.size, 3, none⟩ = some (.slice AR rows.length cr) := C0.cell 3
        by_cases hlt : k < rows.length
        · obtain ⟨ad, ci, had, hb, hci, hcell⟩ := (RAt.out.keep hBr).at_ hlt
          subst had
          obtain ⟨b, hbe⟩ : ∃ b, rows[k] = b := ⟨_, rfl⟩
          have HDD := Lib.hid (firstF_step (rowsF loops) rows k hlt)
          have HLAW := Lib.hid (fun w' (h1 : SiAt w' B (W2.heap.size + 1 + 1) (W.heap.size + 1) (W.heap.size + 1 + 1) W2.heap.size (W2.heap.size + 1) kv1 kv2 kv3 kv4 cells loops bounds (rows.take k)) (h2 : Below B w w') => rowsFault_any cells loops kv1 kv2 (W.heap.size + 1) (W.heap.size + 1 + 1) W2.heap.size (W2.heap.size + 1) (W2.heap.size + 1 + 1) B rows (some ad) cr k hlt w' h1.blk h1.ty (RAt.out.keep h2) h1.ne.2.2.2.2.2.2.2.2.2)
          rw [hbe] at hci HDD HLAW
          have HBE := Lib.hid hbe
          have hbc := hci
          obtain ⟨⟨A1, c1, A2, c2, rfl, hr1, hr2⟩, hx1, hx2, hx3⟩ := hci
          have HBC := Lib.hid hbc
          have HBX := Lib.hid (And.intro hr1 (And.intro hr2 hx3))
          have HLT := Lib.hid hlt
          have fc0 : wr.cell? (ad.add (k * 3)) = some (.string b.nm) := hcell 0 _ rfl
          have fc1 : wr.cell? ⟨(ad.add (k * 3)).block, (ad.add (k * 3)).off + 1, none⟩ = some (.slice A1 b.row.length c1) := hcell 1 _ rfl
          have fc2 : wr.cell? ⟨(ad.add (k * 3)).block, (ad.add (k * 3)).off + 2, none⟩ = some (.slice A2 b.nums.length c2) := hcell 2 _ rfl
          have hk0 : (0 : Int) ≤ (k : Nat) := by omega
          have hk1 : (k : Int) < (rows.length : Nat) := by omega
          clear hcell hbe hbc hr1 hr2 hx1 hx2 hx3  hb
          go_upto_region 18 with (fail)
          obtain ⟨W3, hW3⟩ : ∃ W3, W3 = wr.alloc (.cells #[.string b.nm, .slice A1 b.row.length c1, .slice A2 b.nums.length c2] 92 (0, 0)) := ⟨_, rfl⟩
          have hb3 : Below wr.heap.size wr W3 := hW3 ▸ (Below.refl _ wr).alloc (Nat.le_refl _) _
          have B8 : Blk W3 wr.heap.size 92 #[.string b.nm, .slice A1 b.row.length c1, .slice A2 b.nums.length c2] := hW3 ▸ Blk.new wr _ _
          rw [← hW3]
          clear hW3 fc0 fc1 fc2 sk3
          have C0 := C0.below hb3 C0.lt
          have sl3 : W3.cell? ⟨w.heap.size, 3, none⟩ = some (.slice (some ad) rows.length cr) := C0.cell 3
          have HSI3 := Lib.hid (HSI.out.keep hb3)
          have hbw3 := hbr.trans (hb3.mono hsr)
          obtain ⟨f1, hf1⟩ : ∃ f, rowsF loops (rows.take k) b = f := ⟨_, rfl⟩
          have HF1 := Lib.hid hf1
          have HLW := Lib.hid (HLAW.out W3 HSI3.out (hbw3.mono HL.out.2.2.2.2))
          rw [hf1] at HLW HDD
          clear hf1
          go_wp2_with fail
          refine HLW.out.mono ?_
          rintro en W4 ⟨rfl, hb4⟩
          have hbw4 := hbw3.trans (hb4.mono hbw3.size)
          have C0 := C0.below hb4 C0.lt
          have B8 := B8.below hb4 B8.lt
          have HSI4 := Lib.hid (HSI3.out.keep hb4)
          have HB4 := Lib.hid (show Below B wr W4 from (hb3.trans (hb4.mono hb3.size)).mono (Nat.le_trans HL.out.2.2.2.2 hsr))
          clear hb4 hb3 sl3 HLW HLAW HSI3 HSI
          by_cases h0 : f1 = 0
          rotate_left
          · have bg : (f1 != 0) = true := by simpa using h0
            have HK := Lib.hid (show sceneF cells loops bounds rows = f1 by rw [HS1.out, HD.out, HDD.out, if_pos h0])
            have H0 := Lib.hid h0
            clear h0 B8 C0
            go_wp2_with fail
            go_ret2
            exact SiR.bad (by rw [HK.out]; exact H0.out) (by rw [HK.out]; try rfl) hbw4
          subst h0
          obtain ⟨ok1, ok2, ok3⟩ := rows_ok HWK.out.2 HNL.out HF1.out
          have hkey : (rKey b).size ≤ 100000000 := by
            have h := rowKeyL_len b.nm.data.toList b.row ok3
            have h2 : b.nm.data.toList.length ≤ 16 := by simpa using ok1
            have h3 : (rKey b).size = (rowKeyL b.nm.data.toList b.row).length := by simp [rKey, ByteArray.size]
            omega
          have HKY := Lib.hid hkey
          have hB4 := hbw4.mono HL.out.2.2.2.2
          have hs4 := Nat.le_trans HL.out.2.2.2.2 hbw4.size
          have K1 := Lib.hid (show ∀ w', Below W4.heap.size W4 w' → Calls Tryz.prog 35 #[.string b.nm, .slice A1 b.row.length c1] w' fun en w'' => en = .returned (.string (rKey b)) ∧ Below W4.heap.size W4 w'' from fun w' hb =>
            (rowKey_any b.nm b.row A1 c1 B w' (by omega) ok2 ok3 (HBX.out.1.below ((Below.refl B wr).trans (show Below B wr w' from (show Below B wr W4 from HB4.out).trans (hb.mono hs4)))) (Nat.le_trans hs4 hb.size) (HTB.out.below (hbw4.trans (hb.mono hbw4.size)))).mono fun _ _ ⟨he, hk⟩ => ⟨he, hb.trans (hk.mono hb.size)⟩)
          have HPUT := Lib.hid (show ∀ w1, Below W4.heap.size W4 w1 → ∃ w2, (Instr.mapUpdate 59 (.map (some (W2.heap.size + 1))) (.string (rKey b)) (.slice A2 b.nums.length c2)).run Tryz.prog w1 = .ok () w2 ∧ MapIs w2 (W2.heap.size + 1) ((rKey b, .slice A2 b.nums.length c2) :: kv4) ∧ w1.grownBy w2 (some (W2.heap.size + 1)) from fun w1 hb =>
            (HSI4.out.keep hb).m4m.put Tryz.underlying59 (by have h := HSI4.out.kr.len; rw [h, List.length_take]; have := HLEN.out; unfold maxLen; omega) (by have := HKY.out; unfold maxLen; omega) _)
          have zz : W4.cell? ⟨(W2.heap.size + 1 + 1), 3, none⟩ = some (.map (some (W2.heap.size + 1))) := HSI4.out.blk.cell 3
          have hgm : (W2.heap.size + 1 + 1) ≠ (W2.heap.size + 1) := HSI4.out.ne.2.1
          have y0 : W4.cell? ⟨wr.heap.size, 0, none⟩ = some (.string b.nm) := B8.cell 0
          have y1 : W4.cell? ⟨wr.heap.size, 1, none⟩ = some (.slice A1 b.row.length c1) := B8.cell 1
          have y2 : W4.cell? ⟨wr.heap.size, 2, none⟩ = some (.slice A2 b.nums.length c2) := B8.cell 2
          have hmw : (W2.heap.size + 1) < wr.heap.size := HMW.out
          have HS := Lib.hid (show ∀ w', Below W4.heap.size W4 w' → w'.cell? ⟨(W2.heap.size + 1 + 1), 3, none⟩ = some (.map (some (W2.heap.size + 1))) ∧ w'.cell? ⟨wr.heap.size, 0, none⟩ = some (.string b.nm) ∧ w'.cell? ⟨wr.heap.size, 1, none⟩ = some (.slice A1 b.row.length c1) ∧ w'.cell? ⟨wr.heap.size, 2, none⟩ = some (.slice A2 b.nums.length c2) from fun w' hb => ⟨Below.cell_of hb zz, Below.cell_of hb y0, Below.cell_of hb y1, Below.cell_of hb y2⟩)
          have HS2 := Lib.hid (show ∀ w1 w2, Below W4.heap.size W4 w1 → w1.grownBy w2 (some (W2.heap.size + 1)) → w2.cell? ⟨(W2.heap.size + 1 + 1), 3, none⟩ = some (.map (some (W2.heap.size + 1))) ∧ w2.cell? ⟨wr.heap.size, 0, none⟩ = some (.string b.nm) ∧ w2.cell? ⟨wr.heap.size, 1, none⟩ = some (.slice A1 b.row.length c1) ∧ w2.cell? ⟨wr.heap.size, 2, none⟩ = some (.slice A2 b.nums.length c2) from fun w1 w2 hb hg => by
            have hk := HS.out w1 hb
            have hlt8 := Nat.lt_of_lt_of_le B8.lt hb.size
            have hltg := Nat.lt_of_lt_of_le HSI4.out.blk.lt hb.size
            refine ⟨(hg.cell_far _ hltg (fun e => hgm (Option.some.inj e))).trans hk.1, (hg.cell_far _ hlt8 (fun e => (by have h : wr.heap.size = (W2.heap.size + 1) := Option.some.inj e; omega))).trans hk.2.1, (hg.cell_far _ hlt8 (fun e => (by have h : wr.heap.size = (W2.heap.size + 1) := Option.some.inj e; omega))).trans hk.2.2.1, (hg.cell_far _ hlt8 (fun e => (by have h : wr.heap.size = (W2.heap.size + 1) := Option.some.inj e; omega))).trans hk.2.2.2⟩)
          have hq0 : Below W4.heap.size W4 W4 := Below.refl _ _
          clear zz y0 y1 y2
          go_upto_region 21 with (fail)
          go_region_held3 (fun w' => w'.cell? ⟨(W2.heap.size + 1 + 1), 3, none⟩ = some (.map (some (W2.heap.size + 1))) ∧ w'.cell? ⟨wr.heap.size, 0, none⟩ = some (.string b.nm) ∧ w'.cell? ⟨wr.heap.size, 1, none⟩ = some (.slice A1 b.row.length c1) ∧ w'.cell? ⟨wr.heap.size, 2, none⟩ = some (.slice A2 b.nums.length c2))
            (first | exact HS.out _ hq0.drew | exact HS.out _ hq1 | exact HS2.out _ _ hq1 hg2 | exact HS2.out _ _ hq1 hg2)
            (first | (go_at_call 35; (with_reducible refine (K1.out _ hq0.drew).mono ?_); rintro e1 w1 ⟨rfl, hq1⟩; obtain ⟨w2, hrun, hm2, hg2⟩ := HPUT.out w1 hq1))
          all_goals
            have HB5 := Lib.hid (show Below B wr w1 from HB4.out.trans (hq1.mono hs4))
            have e1 : rows.take k ++ [b] = rows.take (k + 1) := by rw [List.take_succ_eq_append_getElem HLT.out, HBE.out]
            have HSI5 := Lib.hid (show SiAt w2 B (W2.heap.size + 1 + 1) (W.heap.size + 1) (W.heap.size + 1 + 1) W2.heap.size (W2.heap.size + 1) kv1 kv2 kv3 ((rKey b, .slice A2 b.nums.length c2) :: kv4) cells loops bounds (rows.take (k + 1)) from by
              have h := (HSI4.out.keep hq1).put4 hg2 (HBX.out.2.1.below HB5.out) HBX.out.2.2 hm2
              rw [e1] at h
              exact h)
            have HB6 := Lib.hid ((C0.below hq1 C0.lt).grown hg2 (fun e => (by have h : w.heap.size = (W2.heap.size + 1) := Option.some.inj e; have := hwW2; omega)))
            have hbw7 : Below w.heap.size w w2 := (hbw4.trans (hq1.mono hbw4.size)).grown hg2 (Nat.le_trans hbw4.size hq1.size) (fun g hg => (by have h : (W2.heap.size + 1) = g := Option.some.inj hg; have := hwW2; omega))
            have HD7 := Lib.hid (HD.out.trans (HDD.out.trans (if_neg (fun h => h rfl))))
            clear e1 hq0 hq1 hm2 hg2 hrun HS HS2 K1 HPUT B8 C0 hmw hgm hkey ok1 ok2 ok3
            go_wp2_with fail
            go_roundw
            case rel => exact ⟨k + 1, _, HLT.out, by go_num, HSI5, HB6, HD7, hbw7⟩
            case measure =>
              have := HLT.out
              simp [intOf]
              omega
        · have hke : rows.take k = rows := List.take_of_length_le (by omega)
          have HE := Lib.hid (show firstF (rowsF loops) [] rows = 0 by rw [HD.out, List.drop_eq_nil_of_le (by omega)]; rfl)
          have HSI := Lib.hid (show SiAt wr B (W2.heap.size + 1 + 1) (W.heap.size + 1) (W.heap.size + 1 + 1) W2.heap.size (W2.heap.size + 1) kv1 kv2 kv3 kv4 cells loops bounds rows by have h := HSI.out; rwa [hke] at h)
          clear hke HD
          have HK := Lib.hid (show sceneF cells loops bounds rows = 0 by rw [HS1.out, HE.out])
          go_wp2_with fail
          go_ret2
          exact ⟨⟨some ⟨(W2.heap.size + 1 + 1), 0, none⟩, by rw [HK.out]; try rfl, fun _ => ⟨(W2.heap.size + 1 + 1), (W.heap.size + 1), (W.heap.size + 1 + 1), W2.heap.size, (W2.heap.size + 1), kv1, kv2, kv3, kv4, rfl, HSI.out, by omega, by omega, by omega⟩⟩, hbr⟩
end Go.Proofs.YtpanbeoelbhhgaaGreatDoor
