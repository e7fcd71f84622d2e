/- The walks of isPlace and of the reference's check of cells and loops. · The walk of the reference's check of cells and loops. · The walks of allOf, fits, overType, opType. · The walks of the reference's fits, operation, over. · What opType answers. · Both tables of operations answer alike. The plain mathematics. -/
import Derived.Test.YtcmccjcelchlhaaGreatDoorM6
namespace Go.Proofs.YtcmccjcelchlhaaGreatDoor
open Go.RowKit
attribute [local go_sem ↓] Go.wp_at_zero Go.wp_at_succ

theorem nested_step {l : List NestD} {at_ : List ByteArray} {z : ByteArray} (hz : at_.getLast? = some z) : nestedF l at_ = l.any (fun n => decide (n.nm = z) && decide (n.loops = at_.dropLast)) := by unfold nestedF; rw [hz]
set_option maxHeartbeats 4000000 in
set_option maxRecDepth 100000 in
theorem isPlace_any (l : List NestD) (AN : Option Addr) (cn : Nat) (at_ : List ByteArray) (A : Option Addr) (c B : Nat) (w : World) (hN : NestsAt w B AN l) (ha : at_.length ≤ maxLen) (hx : StrsAt w B A at_) (hc : at_.length ≤ c) (hB : B ≤ w.heap.size) :
    Calls Tryz.prog 20 #[.slice AN l.length cn, .slice A at_.length c] w fun e w' => e = .returned (.bool (nestedF l at_)) ∧ Below w.heap.size w w' := by
  have NAt := Lib.hid hN
  have HX := Lib.hid hx
  have HA := Lib.hid ha
  have hl := hN.1
  unfold maxLen at hl ha
  clear hN hx
  rcases Nat.eq_zero_or_pos at_.length with h0 | h0
  · have e1 := List.eq_nil_of_length_eq_zero h0
    subst e1
    clear h0
    go_enter Tryz.func20, Tryz.ntmps20
    go_wp2_with (fail)
    go_ret
    exact ⟨rfl, Below.refl _ _⟩
  · obtain ⟨z, hz, hz2⟩ := last_of h0
    obtain ⟨b, o, rfl, hb, hcell⟩ := HX.out.plain h0
    have hzc : w.cell? ⟨b, o + (at_.length - 1), none⟩ = some (.string z) := hcell _ _ (by unfold strV; rw [List.getElem?_map, hz2]; rfl)
    have HZC := Lib.hid hzc
    have HN := Lib.hid (nested_step (l := l) hz)
    have hn1 : (1 : Int) ≤ (at_.length : Nat) := by omega
    have bn : ((at_.length : Int) == 0) = false := by rw [beq_eq_false_iff_ne]; omega
    have hbB : b < w.heap.size := by omega
    have hc1 : ((at_.length : Nat) : Int) - 1 ≤ (c : Nat) := by omega
    have i0 : IntKind.i64.wrap ((at_.length : Int) - 1) = (at_.length : Int) - 1 := IntWalk.i64_in _ (by omega)
    have i1 : ((at_.length : Int) - 1).toNat = at_.length - 1 := by omega
    have i2 : (0 : Int) ≤ (at_.length : Int) - 1 := by omega
    have i3 : (at_.length : Int) - 1 < (at_.length : Int) := by omega
    have hlen : (at_.take (at_.length - 1)).length = at_.length - 1 := by rw [List.length_take]; omega
    have HLEN := Lib.hid hlen
    clear hcell hz hz2 hzc hlen
    go_enter Tryz.func20, Tryz.ntmps20
    go_wp2
    go_loopw [16] (fun i wr => ∃ k : Nat, k ≤ l.length ∧ i = .int .i64 k ∧ Hid ((l.take k).any (fun n => decide (n.nm = z) && decide (n.loops = at_.dropLast)) = false) ∧ Below w.heap.size w wr) (fun i _ => l.length - (intOf i).toNat)
    case atStart => exact ⟨0, Nat.zero_le _, rfl, Lib.hid rfl, Below.refl _ _⟩
    case round =>
      obtain ⟨k, hk, rfl, HD, hbr⟩ := hrel
      have hsr := hbr.size
      by_cases hlt : k < l.length
      · obtain ⟨ad, ci, rfl, hbb, hci, hcell⟩ := (NAt.out.keep (hbr.mono hB)).at_ hlt
        obtain ⟨d, hed⟩ : ∃ d, l[k] = d := ⟨_, rfl⟩
        have HS := Lib.hid (show (l.take (k + 1)).any (fun n => decide (n.nm = z) && decide (n.loops = at_.dropLast)) = (decide (d.nm = z) && decide (d.loops = at_.dropLast)) by
          rw [List.take_succ_eq_append_getElem hlt, List.any_append, HD.out, hed]; simp)
        have HIN := Lib.hid (show d ∈ l by rw [← hed]; exact List.getElem_mem hlt)
        rw [hed] at hci
        have HLT := Lib.hid hlt
        obtain ⟨⟨A1, c1, rfl, hdx, hdc⟩, hd1, hd2, hd3⟩ := hci
        have fc0 : wr.cell? (ad.add (k * 2)) = some (.string d.nm) := hcell 0 _ rfl
        have fc1 : wr.cell? ⟨(ad.add (k * 2)).block, (ad.add (k * 2)).off + 1, none⟩ = some (.slice A1 d.loops.length c1) := hcell 1 _ rfl
        have HDX := Lib.hid (And.intro hdx hd2)
        clear hcell hed hdx hdc hd1 hd2 hd3
        go_upto_region 7 with (fail)
        obtain ⟨W1, hW1⟩ : ∃ W1, W1 = wr.alloc (.cells #[.string d.nm, .slice A1 d.loops.length c1] 77 (0, 0)) := ⟨_, rfl⟩
        have hb1 : Below wr.heap.size wr W1 := hW1 ▸ (Below.refl _ wr).alloc (Nat.le_refl _) _
        have B7 : Blk W1 wr.heap.size 77 #[.string d.nm, .slice A1 d.loops.length c1] := hW1 ▸ Blk.new wr _ _
        rw [← hW1]
        have hbw := hbr.trans (hb1.mono hsr)
        have r9 := Later.cell (show W1.cell? ⟨b, o + (at_.length - 1), none⟩ = some (.string z) by rw [hbw.cell (by exact hbB)]; exact HZC.out)
        have r0 := Later.cell (show W1.cell? ⟨wr.heap.size, 0, none⟩ = some (.string d.nm) from B7.cell 0)
        have r1 := Later.cell (show W1.cell? ⟨wr.heap.size, 1, none⟩ = some (.slice A1 d.loops.length c1) from B7.cell 1)
        have k1 : ∀ w' : World, Below W1.heap.size W1 w' → Calls Tryz.prog 13 #[.slice A1 d.loops.length c1, .slice (some ⟨b, o, none⟩) (at_.length - 1) c] w' fun e w'' => e = .returned (.bool (decide (d.loops = at_.dropLast))) ∧ Below w'.heap.size w' w'' := fun w' hb' => by
          have hbx := hb1.trans (hb'.mono hb1.size)
          have hby := hbr.trans (hbx.mono hsr)
          have h := equalStr_any A1 (some ⟨b, o, none⟩) c1 c B B d.loops (at_.take (at_.length - 1)) w' HDX.out.2 (by rw [HLEN.out]; have := HA.out; omega) (HDX.out.1.below (hbx.mono (Nat.le_trans hB hsr))) ((HX.out.take _).below (hby.mono hB))
          rw [HLEN.out, ← List.dropLast_eq_take] at h
          exact h
        have K1 := Lib.hid (Later.call k1)
        obtain ⟨q, hq⟩ : ∃ q, decide (d.loops = at_.dropLast) = q := ⟨_, rfl⟩
        have HQ := Lib.hid hq
        rw [hq] at K1
        clear k1 hW1 hb1 B7 fc0 fc1 hq
        by_cases hs : d.nm = z
        · have b0 : (d.nm.toList == z.toList) = true := strEq_true hs
          have HE := Lib.hid (show (decide (d.nm = z) && decide (d.loops = at_.dropLast)) = q by rw [HQ.out, decide_eq_true hs]; simp)
          clear hs
          refine wp_region_later (by kernel_rfl) (by kernel_rfl) ?_
          repeat (go_big_quiet_step (with_reducible exact K1.out _))
          refine wpQuiet_nil ?_
          intro _ hw'
          obtain ⟨⟨W9, hb9⟩, rfl⟩ := hw'
          have hbw9 := hbw.trans (hb9.mono hbw.size)
          clear hb9
          cases q
          · have HD2 := Lib.hid (HS.out.trans HE.out)
            go_wp2
            go_roundw
            case rel => exact ⟨k + 1, HLT.out, by go_num, HD2, hbw9⟩
            case measure =>
              have := HLT.out
              simp [intOf]
              omega
          · have HF := Lib.hid (show nestedF l at_ = true by rw [HN.out]; exact List.any_eq_true.2 ⟨d, HIN.out, HE.out⟩)
            go_wp2
            go_ret
            exact ⟨ret_bool (by rw [HF.out]), hbw9⟩
        · have b0 : (d.nm.toList == z.toList) = false := strEq_false hs
          have HE := Lib.hid (show (decide (d.nm = z) && decide (d.loops = at_.dropLast)) = false by rw [decide_eq_false hs]; simp)
          clear hs
          refine wp_region_later (by kernel_rfl) (by kernel_rfl) ?_
          repeat (go_big_quiet_step (with_reducible exact K1.out _))
          refine wpQuiet_nil ?_
          intro _ hw'
          obtain ⟨⟨W9, hb9⟩, rfl⟩ := hw'
          have hbw9 := hbw.trans (hb9.mono hbw.size)
          have HD2 := Lib.hid (HS.out.trans HE.out)
          clear hb9
          go_wp2
          go_roundw
          case rel => exact ⟨k + 1, HLT.out, by go_num, HD2, hbw9⟩
          case measure =>
            have := HLT.out
            simp [intOf]
            omega
      · have HF := Lib.hid (show nestedF l at_ = false by
          rw [HN.out]
          have h := HD.out
          rwa [List.take_of_length_le (by omega)] at h)
        go_wp2
        go_ret
        exact ⟨ret_bool (by rw [HF.out]), hbr⟩
end Go.Proofs.YtcmccjcelchlhaaGreatDoor
namespace Go.Proofs.YtcmccjcelchlhaaGreatDoor
open Go.RowKit
attribute [local go_sem ↓] Go.wp_at_zero Go.wp_at_succ

theorem later_h {W w' : World} (h : ∃ p : Later W, w' = p.w) : Below W.heap.size W w' := by
  obtain ⟨p, rfl⟩ := h
  exact p.h
theorem LiesAt.take {α : Type} {P : World → Nat → α → List Value → Prop} {size B : Nat} {w : World} {A : Option Addr} {l : List α} (h : LiesAt P size w B A l) (k : Nat) : LiesAt P size w B A (l.take k) := by
  obtain ⟨h0, cs, hr, hp⟩ := h
  have hk : (l.take k).length ≤ l.length := List.length_take_le' _ _
  refine ⟨Nat.le_trans hk h0, cs.take ((l.take k).length * size), ⟨by rw [List.length_take, hr.1]; exact Nat.min_eq_left (Nat.mul_le_mul_right _ hk), fun hn => ?_⟩, fun i hi => ?_⟩
  · obtain ⟨ad, e, hb, hc⟩ := hr.2 (by omega)
    refine ⟨ad, e, hb, fun j u hu => hc j u ?_⟩
    rw [List.getElem?_take] at hu
    split at hu
    · exact hu
    · cases hu
  · have h1 := hp i (by omega)
    have hle : i * size + size ≤ (l.take k).length * size := by rw [← Nat.succ_mul]; exact Nat.mul_le_mul_right _ hi
    rw [List.drop_take, List.take_take, Nat.min_eq_left (by omega), List.getElem_take]
    exact h1
set_option maxHeartbeats 8000000 in
set_option maxRecDepth 100000 in
theorem rcheckW_any (cells : List CellD) (loops : List NestD) (AC : Option Addr) (cc : Nat) (AN : Option Addr) (cn B : Nat) (w : World) (hC : CellsAt w B AC cells) (hN : NestsAt w B AN loops) (hcc : cells.length ≤ cc) (hcn : loops.length ≤ cn) (hB : B ≤ w.heap.size) (hsp : Sp w) :
    Calls Tryz.prog 19 #[.agg #[.slice AC cells.length cc, .slice AN loops.length cn]] w fun en w' => en = .returned (.int .i64 (worldF cells loops)) ∧ Below w.heap.size w w' := by
  have CAt := Lib.hid hC
  have NAt := Lib.hid hN
  have HSP := Lib.hid hsp
  have hcl := hC.1
  have hnl := hN.1
  unfold maxLen at hcl hnl
  clear hC hN hsp
  go_enter Tryz.func19, Tryz.ntmps19
  go_wp2
  obtain ⟨W, hW⟩ : ∃ W, W = (w.alloc (.cells #[.slice AC cells.length cc, .slice AN loops.length cn] 55 (0, 0))) := ⟨_, rfl⟩
  have hbw : Below w.heap.size w W := by rw [hW]; exact ((Below.refl _ w).alloc (Nat.le_refl _) _)
  have B0 : Blk W (w.heap.size) 55 #[.slice AC cells.length cc, .slice AN loops.length cn] := by
    rw [hW]
    have := Blk.new w 55 #[.slice AC cells.length cc, .slice AN loops.length cn]
    exact this
  have hsz : W.heap.size = w.heap.size + 1 := by rw [hW]; simp
  rw [← hW]
  have HBB := Lib.hid B0
  clear hW hsz B0
  go_loopw [12] (fun i wr => ∃ k : Nat, k ≤ cells.length ∧ i = .int .i64 k ∧ Hid (firstF cellFault [] cells = firstF cellFault (cells.take k) (cells.drop k)) ∧ Hid (Blk wr w.heap.size 55 #[.slice AC cells.length cc, .slice AN loops.length cn]) ∧ Below w.heap.size w wr) (fun i _ => cells.length - (intOf i).toNat)
  case atStart => exact ⟨0, Nat.zero_le _, rfl, Lib.hid rfl, HBB, hbw⟩
  case round =>
    clear HBB hbw
    obtain ⟨k, hk, rfl, HD, HBB, hbr⟩ := hrel
    have hsr := hbr.size
    by_cases hlt : k < cells.length
    · obtain ⟨ad, ci, rfl, hb, hci, hcell⟩ := (CAt.out.keep (hbr.mono hB)).at_ hlt
      obtain ⟨d, hed⟩ : ∃ d, cells[k] = d := ⟨_, rfl⟩
      have HDD := Lib.hid (show firstF cellFault [] cells = if cellFault (cells.take k) d ≠ 0 then cellFault (cells.take k) d else firstF cellFault (cells.take (k + 1)) (cells.drop (k + 1)) by
        rw [HD.out, List.drop_eq_getElem_cons hlt, hed, firstF, List.take_succ_eq_append_getElem hlt, hed])
      rw [hed] at hci
      have HLT := Lib.hid hlt
      have hkc : (k : Int) ≤ (cc : Nat) := by omega
      have hk0 : (0 : Int) ≤ (k : Nat) := by omega
      have hkc2 : k ≤ cc := by omega
      obtain ⟨⟨A1, c1, rfl, hdx, hdc⟩, hd1, hd2, hd3⟩ := hci
      have fc0 : wr.cell? (ad.add (k * 3)) = some (.string d.nm) := hcell 0 _ rfl
      have fc1 : wr.cell? ⟨(ad.add (k * 3)).block, (ad.add (k * 3)).off + 1, none⟩ = some (.int .i64 d.kind) := hcell 1 _ rfl
      have fc2 : wr.cell? ⟨(ad.add (k * 3)).block, (ad.add (k * 3)).off + 2, none⟩ = some (.slice A1 d.loops.length c1) := hcell 2 _ rfl
      have HDX := Lib.hid (And.intro hdx (And.intro hdc (And.intro hd2 hd3)))
      clear hcell hed hdx hdc hd2 hd3
      go_wp2_with fail
      obtain ⟨W1, hW1⟩ : ∃ W1, W1 = wr.alloc (.cells #[.string d.nm, .int .i64 d.kind, .slice A1 d.loops.length c1] 72 (0, 0)) := ⟨_, rfl⟩
      have hb1 : Below wr.heap.size wr W1 := hW1 ▸ (Below.refl _ wr).alloc (Nat.le_refl _) _
      have B4 : Blk W1 wr.heap.size 72 #[.string d.nm, .int .i64 d.kind, .slice A1 d.loops.length c1] := hW1 ▸ Blk.new wr _ _
      rw [← hW1]
      have hbw := hbr.trans (hb1.mono hsr)
      have B1 := HBB.out.below hb1 HBB.out.lt
      have HDX1 := Lib.hid (HDX.out.1.below (hb1.mono (Nat.le_trans hB hsr)))
      obtain ⟨bn, hbn⟩ : ∃ b, isNameF d.nm.data.toList = b := ⟨_, rfl⟩
      have HBN := Lib.hid hbn
      clear hW1 hbn fc0 fc1 fc2
      refine (rIsName_any d.nm W1 hd1 (tabIs_below HSP.out hbw)).mono ?_
      rw [HBN.out]
      rintro en W2 ⟨rfl, hb2⟩
      have hbw := hbw.trans (hb2.mono hbw.size)
      have B1 := B1.below hb2 B1.lt
      have B4 := B4.below hb2 B4.lt
      have HDX2 := Lib.hid (HDX1.out.below (hb2.mono (Nat.le_trans hB (Nat.le_trans hsr hb1.size))))
      have hs2 : wr.heap.size < W2.heap.size := B4.lt
      clear hb1 hb2 HDX1
      have tc0 : W2.cell? ⟨w.heap.size, 0, none⟩ = some (.slice (some ad) cells.length cc) := B1.cell 0
      have tc1 : W2.cell? ⟨w.heap.size, 1, none⟩ = some (.slice AN loops.length cn) := B1.cell 1
      have vc0 : W2.cell? ⟨wr.heap.size, 0, none⟩ = some (.string d.nm) := B4.cell 0
      have vc1 : W2.cell? ⟨wr.heap.size, 1, none⟩ = some (.int .i64 d.kind) := B4.cell 1
      have vc2 : W2.cell? ⟨wr.heap.size, 2, none⟩ = some (.slice A1 d.loops.length c1) := B4.cell 2
      cases bn
      · skip
        have HE := Lib.hid (show worldF cells loops = 5 by
          have hf : cellFault (cells.take k) d = 5 := by unfold cellFault; rw [if_pos HBN.out]
          have h := HDD.out
          rw [hf, if_pos (by decide)] at h
          unfold worldF
          rw [if_pos (by rw [h]; decide), h])
        go_wp2
        go_ret
        exact ⟨ret_int (by rw [HE.out]), hbw⟩
      obtain ⟨q, hq⟩ : ∃ q, cellIdx (cells.take k) d.nm = q := ⟨_, rfl⟩
      have HANY := Lib.hid (show decide (0 ≤ q) = (cells.take k).any (fun x => decide (x.nm = d.nm)) by rw [← hq]; exact idxFrom_ge)
      have k1 : ∀ w' : World, Below W2.heap.size W2 w' → Calls Tryz.prog 43 #[.slice (some ad) k cc, .string d.nm] w' fun e w'' => e = .returned (.int .i64 q) ∧ Below w'.heap.size w' w'' := fun w' hb' => by
        have hbv := hbw.trans (hb'.mono hbw.size)
        have h := cellAt_any (cells.take k) (some ad) cc B d.nm w' ((CAt.out.keep (hbv.mono hB)).take k) (Nat.le_trans hB hbv.size)
        rw [show (cells.take k).length = k by rw [List.length_take]; have := HLT.out; omega] at h
        rw [hq] at h
        exact h
      have K1 := Lib.hid (Later.call k1)
      have rt0 := Later.cell (show W2.cell? ⟨w.heap.size, 0, none⟩ = some (.slice (some ad) cells.length cc) from B1.cell 0)
      have rt1 := Later.cell (show W2.cell? ⟨w.heap.size, 1, none⟩ = some (.slice AN loops.length cn) from B1.cell 1)
      have rv0 := Later.cell (show W2.cell? ⟨wr.heap.size, 0, none⟩ = some (.string d.nm) from B4.cell 0)
      have rv1 := Later.cell (show W2.cell? ⟨wr.heap.size, 1, none⟩ = some (.int .i64 d.kind) from B4.cell 1)
      have rv2 := Later.cell (show W2.cell? ⟨wr.heap.size, 2, none⟩ = some (.slice A1 d.loops.length c1) from B4.cell 2)
      clear k1 hq tc0 tc1 vc0 vc1 vc2
      by_cases hq0 : 0 ≤ q
      · have b0 : decide ((0 : Int) ≤ q) = true := decide_eq_true hq0
        have HA2 := Lib.hid (HANY.out.symm.trans b0)
        clear hq0
        go_upto_region 6 with (fail)
        refine wp_region_later (by kernel_rfl) (by kernel_rfl) ?_
        repeat (go_big_quiet_step (with_reducible exact K1.out _))
        refine wpQuiet_nil ?_
        intro W9 hw'
        have hb9 := later_h hw'
        clear hw'
        
        have hbw := hbw.trans (hb9.mono hbw.size)
        clear hb9 rt0 rt1 rv0 rv1 rv2
        have HE := Lib.hid (show worldF cells loops = 6 by
          have hf : cellFault (cells.take k) d = 6 := by unfold cellFault; rw [if_neg (by rw [HBN.out]; simp), if_pos HA2.out]
          have h := HDD.out
          rw [hf, if_pos (by decide)] at h
          unfold worldF
          rw [if_pos (by rw [h]; decide), h])
        go_wp2
        go_ret
        exact ⟨ret_int (by rw [HE.out]), hbw⟩
      have b0 : decide ((0 : Int) ≤ q) = false := decide_eq_false hq0
      have HA2 := Lib.hid (HANY.out.symm.trans b0)
      clear hq0
      go_upto_region 6 with (fail)
      refine wp_region_later (by kernel_rfl) (by kernel_rfl) ?_
      repeat (go_big_quiet_step (with_reducible exact K1.out _))
      refine wpQuiet_nil ?_
      intro W9 hw'
      have hb9 := later_h hw'
      clear hw'
      
      have B1 := B1.below hb9 B1.lt
      have B4 := B4.below hb9 B4.lt
      have hbw := hbw.trans (hb9.mono hbw.size)
      clear hb9 rt0 rt1 rv0 rv1 rv2
      have tc0 : W9.cell? ⟨w.heap.size, 0, none⟩ = some (.slice (some ad) cells.length cc) := B1.cell 0
      have tc1 : W9.cell? ⟨w.heap.size, 1, none⟩ = some (.slice AN loops.length cn) := B1.cell 1
      have vc0 : W9.cell? ⟨wr.heap.size, 0, none⟩ = some (.string d.nm) := B4.cell 0
      have vc1 : W9.cell? ⟨wr.heap.size, 1, none⟩ = some (.int .i64 d.kind) := B4.cell 1
      have vc2 : W9.cell? ⟨wr.heap.size, 2, none⟩ = some (.slice A1 d.loops.length c1) := B4.cell 2
      obtain ⟨ok, hok⟩ : ∃ b, outB d.kind 2 7 = b := ⟨_, rfl⟩
      have HOK := Lib.hid hok
      clear hok
      go_wp2_with fail
      refine (within_any d.kind 2 7 W9).mono ?_
      rw [HOK.out]
      rintro en w3 ⟨rfl, rfl⟩
      cases ok
      rotate_left
      · skip
        have HE := Lib.hid (show worldF cells loops = 4 by
          have hf : cellFault (cells.take k) d = 4 := by unfold cellFault; rw [if_neg (by rw [HBN.out]; simp), if_neg (by rw [HA2.out]; simp), if_pos HOK.out]
          have h := HDD.out
          rw [hf, if_pos (by decide)] at h
          unfold worldF
          rw [if_pos (by rw [h]; decide), h])
        go_wp2
        go_ret
        exact ⟨ret_int (by rw [HE.out]), hbw⟩
      have HD3 := Lib.hid (show firstF cellFault [] cells = firstF cellFault (cells.take (k + 1)) (cells.drop (k + 1)) by
        rw [HDD.out, if_neg]
        unfold cellFault
        rw [if_neg (by rw [HBN.out]; simp), if_neg (by rw [HA2.out]; simp), if_neg (by rw [HOK.out]; simp)]
        simp)
      have HBB2 := Lib.hid B1
      clear B1
      go_wp2
      go_roundw
      case rel => exact ⟨k + 1, HLT.out, by go_num, HD3, HBB2, hbw⟩
      case measure =>
        have := HLT.out
        simp [intOf]
        omega
    · have HF1 := Lib.hid (show firstF cellFault [] cells = 0 by rw [HD.out, List.drop_eq_nil_of_le (by omega)]; rfl)
      have hbw := hbr
      have B1 := HBB.out
      have tc0 : wr.cell? ⟨w.heap.size, 0, none⟩ = some (.slice AC cells.length cc) := B1.cell 0
      have tc1 : wr.cell? ⟨w.heap.size, 1, none⟩ = some (.slice AN loops.length cn) := B1.cell 1
      clear B1 HD
      go_wp2
      clear tc0 tc1
      go_loopw [40] (fun i wr => ∃ k : Nat, k ≤ loops.length ∧ i = .int .i64 k ∧ Hid (firstF nestFault [] loops = firstF nestFault (loops.take k) (loops.drop k)) ∧ Hid (Blk wr w.heap.size 55 #[.slice AC cells.length cc, .slice AN loops.length cn]) ∧ Below w.heap.size w wr) (fun i _ => loops.length - (intOf i).toNat)
      case atStart => exact ⟨0, Nat.zero_le _, rfl, Lib.hid rfl, HBB, hbw⟩
      case round =>
        clear HBB hbw
        obtain ⟨k, hk, rfl, HD, HBB, hbr⟩ := hrel
        have hsr := hbr.size
        by_cases hlt : k < loops.length
        · obtain ⟨ad, ci, rfl, hb, hci, hcell⟩ := (NAt.out.keep (hbr.mono hB)).at_ hlt
          obtain ⟨d, hed⟩ : ∃ d, loops[k] = d := ⟨_, rfl⟩
          have HDD := Lib.hid (show firstF nestFault [] loops = if nestFault (loops.take k) d ≠ 0 then nestFault (loops.take k) d else firstF nestFault (loops.take (k + 1)) (loops.drop (k + 1)) by
            rw [HD.out, List.drop_eq_getElem_cons hlt, hed, firstF, List.take_succ_eq_append_getElem hlt, hed])
          rw [hed] at hci
          have HLT := Lib.hid hlt
          have hkc : (k : Int) ≤ (cn : Nat) := by omega
          have hk0 : (0 : Int) ≤ (k : Nat) := by omega
          have hkc2 : k ≤ cn := by omega
          obtain ⟨⟨A1, c1, rfl, hdx, hdc⟩, hd1, hd2, hd3⟩ := hci
          have fc0 : wr.cell? (ad.add (k * 2)) = some (.string d.nm) := hcell 0 _ rfl
          have fc1 : wr.cell? ⟨(ad.add (k * 2)).block, (ad.add (k * 2)).off + 1, none⟩ = some (.slice A1 d.loops.length c1) := hcell 1 _ rfl
          have HDX := Lib.hid (And.intro hdx (And.intro hdc (And.intro hd2 hd3)))
          clear hcell hed hdx hdc hd2 hd3
          go_wp2_with fail
          obtain ⟨W1, hW1⟩ : ∃ W1, W1 = wr.alloc (.cells #[.string d.nm, .slice A1 d.loops.length c1] 77 (0, 0)) := ⟨_, rfl⟩
          have hb1 : Below wr.heap.size wr W1 := hW1 ▸ (Below.refl _ wr).alloc (Nat.le_refl _) _
          have B4 : Blk W1 wr.heap.size 77 #[.string d.nm, .slice A1 d.loops.length c1] := hW1 ▸ Blk.new wr _ _
          rw [← hW1]
          have hbw := hbr.trans (hb1.mono hsr)
          have B1 := HBB.out.below hb1 HBB.out.lt
          have HDX1 := Lib.hid (HDX.out.1.below (hb1.mono (Nat.le_trans hB hsr)))
          obtain ⟨bn, hbn⟩ : ∃ b, isNameF d.nm.data.toList = b := ⟨_, rfl⟩
          have HBN := Lib.hid hbn
          clear hW1 hbn fc0 fc1
          refine (rIsName_any d.nm W1 hd1 (tabIs_below HSP.out hbw)).mono ?_
          rw [HBN.out]
          rintro en W2 ⟨rfl, hb2⟩
          have hbw := hbw.trans (hb2.mono hbw.size)
          have B1 := B1.below hb2 B1.lt
          have B4 := B4.below hb2 B4.lt
          have HDX2 := Lib.hid (HDX1.out.below (hb2.mono (Nat.le_trans hB (Nat.le_trans hsr hb1.size))))
          have hs2 : wr.heap.size < W2.heap.size := B4.lt
          clear hb1 hb2 HDX1
          have tc0 : W2.cell? ⟨w.heap.size, 0, none⟩ = some (.slice AC cells.length cc) := B1.cell 0
          have tc1 : W2.cell? ⟨w.heap.size, 1, none⟩ = some (.slice (some ad) loops.length cn) := B1.cell 1
          have vc0 : W2.cell? ⟨wr.heap.size, 0, none⟩ = some (.string d.nm) := B4.cell 0
          have vc1 : W2.cell? ⟨wr.heap.size, 1, none⟩ = some (.slice A1 d.loops.length c1) := B4.cell 1
          cases bn
          · skip
            have HE := Lib.hid (show worldF cells loops = 5 by
              have hf : nestFault (loops.take k) d = 5 := by unfold nestFault; rw [if_pos HBN.out]
              have h := HDD.out
              rw [hf, if_pos (by decide)] at h
              unfold worldF
              rw [if_neg (by rw [HF1.out]; simp), if_pos (by rw [h]; decide), h])
            go_wp2
            go_ret
            exact ⟨ret_int (by rw [HE.out]), hbw⟩
          obtain ⟨q, hq⟩ : ∃ q, nestIdx (loops.take k) d.nm = q := ⟨_, rfl⟩
          have HANY := Lib.hid (show decide (0 ≤ q) = (loops.take k).any (fun x => decide (x.nm = d.nm)) by rw [← hq]; exact idxFrom_ge)
          obtain ⟨p, hp⟩ : ∃ p, nestP (some ad) q = p := ⟨_, rfl⟩
          have HP := Lib.hid hp
          have k1 : ∀ w' : World, Below W2.heap.size W2 w' → Calls Tryz.prog 45 #[.agg #[.slice none 0 0, .slice (some ad) k cn], .string d.nm] w' fun e w'' => e = .returned (p) ∧ Below w'.heap.size w' w'' := fun w' hb' => by
            have hbv := hbw.trans (hb'.mono hbw.size)
            have h := nest_any (loops.take k) (.slice none 0 0) (some ad) cn B d.nm w' ⟨_, _, _, rfl⟩ ((NAt.out.keep (hbv.mono hB)).take k) (Nat.le_trans hB hbv.size)
            rw [show (loops.take k).length = k by rw [List.length_take]; have := HLT.out; omega] at h
            rw [hq, hp] at h
            exact h
          have K1 := Lib.hid (Later.call k1)
          have rt0 := Later.cell (show W2.cell? ⟨w.heap.size, 0, none⟩ = some (.slice AC cells.length cc) from B1.cell 0)
          have rt1 := Later.cell (show W2.cell? ⟨w.heap.size, 1, none⟩ = some (.slice (some ad) loops.length cn) from B1.cell 1)
          have rv0 := Later.cell (show W2.cell? ⟨wr.heap.size, 0, none⟩ = some (.string d.nm) from B4.cell 0)
          have rv1 := Later.cell (show W2.cell? ⟨wr.heap.size, 1, none⟩ = some (.slice A1 d.loops.length c1) from B4.cell 1)
          clear k1 hq hp tc0 tc1 vc0 vc1
          have HPE := Lib.hid (show (q < 0 → p = .pointer none) ∧ (0 ≤ q → ∃ a, p = .pointer (some a)) from ⟨fun h => by rw [← HP.out]; unfold nestP; rw [if_neg (by omega)], fun h => by rw [← HP.out]; unfold nestP; rw [if_pos h]; exact ⟨_, rfl⟩⟩)
          by_cases hq0 : 0 ≤ q
          · obtain ⟨pa, rfl⟩ := HPE.out.2 hq0
            have HA2 := Lib.hid (HANY.out.symm.trans (decide_eq_true hq0))
            clear hq0
            go_upto_region 16 with (fail)
            refine wp_region_later (by kernel_rfl) (by kernel_rfl) ?_
            repeat (go_big_quiet_step (with_reducible exact K1.out _))
            refine wpQuiet_nil ?_
            intro W9 hw'
            have hb9 := later_h hw'
            clear hw'
            
            have hbw := hbw.trans (hb9.mono hbw.size)
            clear hb9 rt0 rt1 rv0 rv1
            have HE := Lib.hid (show worldF cells loops = 6 by
              have hf : nestFault (loops.take k) d = 6 := by unfold nestFault; rw [if_neg (by rw [HBN.out]; simp), if_pos HA2.out]
              have h := HDD.out
              rw [hf, if_pos (by decide)] at h
              unfold worldF
              rw [if_neg (by rw [HF1.out]; simp), if_pos (by rw [h]; decide), h])
            go_wp2
            go_ret
            exact ⟨ret_int (by rw [HE.out]), hbw⟩
          obtain rfl := HPE.out.1 (by omega)
          have HA2 := Lib.hid (HANY.out.symm.trans (decide_eq_false hq0))
          clear hq0
          go_upto_region 16 with (fail)
          refine wp_region_later (by kernel_rfl) (by kernel_rfl) ?_
          repeat (go_big_quiet_step (with_reducible exact K1.out _))
          refine wpQuiet_nil ?_
          intro W9 hw'
          have hb9 := later_h hw'
          clear hw'
          
          have B1 := B1.below hb9 B1.lt
          have B4 := B4.below hb9 B4.lt
          have HDX3 := Lib.hid (HDX2.out.below (hb9.mono (Nat.le_trans hB hbw.size)))
          have hbw := hbw.trans (hb9.mono hbw.size)
          obtain ⟨nb, hnb⟩ : ∃ b, nestedF (loops.take k) d.loops = b := ⟨_, rfl⟩
          have HNB := Lib.hid hnb
          have k2 : ∀ w' : World, Below W9.heap.size W9 w' → Calls Tryz.prog 20 #[.slice (some ad) k cn, .slice A1 d.loops.length c1] w' fun e w'' => e = .returned (.bool nb) ∧ Below w'.heap.size w' w'' := fun w' hb' => by
            have hbv := hbw.trans (hb'.mono hbw.size)
            have h := isPlace_any (loops.take k) (some ad) cn d.loops A1 c1 B w' ((NAt.out.keep (hbv.mono hB)).take k) HDX.out.2.2.1 (HDX3.out.below (hb'.mono (Nat.le_trans hB hbw.size))) HDX.out.2.1 (Nat.le_trans hB hbv.size)
            rw [show (loops.take k).length = k by rw [List.length_take]; have := HLT.out; omega, hnb] at h
            exact h
          have K2 := Lib.hid (Later.call k2)
          clear hb9 rt0 rt1 rv0 rv1 k2 hnb
          have rt0 := Later.cell (show W9.cell? ⟨w.heap.size, 0, none⟩ = some (.slice AC cells.length cc) from B1.cell 0)
          have rt1 := Later.cell (show W9.cell? ⟨w.heap.size, 1, none⟩ = some (.slice (some ad) loops.length cn) from B1.cell 1)
          have rv0 := Later.cell (show W9.cell? ⟨wr.heap.size, 0, none⟩ = some (.string d.nm) from B4.cell 0)
          have rv1 := Later.cell (show W9.cell? ⟨wr.heap.size, 1, none⟩ = some (.slice A1 d.loops.length c1) from B4.cell 1)
          go_upto_region 18 with (fail)
          refine wp_region_later (by kernel_rfl) (by kernel_rfl) ?_
          repeat (go_big_quiet_step (with_reducible exact K2.out _))
          refine wpQuiet_nil ?_
          intro W10 hw'
          have hb10 := later_h hw'
          clear hw'
          
          have B1 := B1.below hb10 B1.lt
          have hbw := hbw.trans (hb10.mono hbw.size)
          clear hb10 rt0 rt1 rv0 rv1
          cases nb
          · skip
            have HE := Lib.hid (show worldF cells loops = 7 by
              have hf : nestFault (loops.take k) d = 7 := by unfold nestFault; rw [if_neg (by rw [HBN.out]; simp), if_neg (by rw [HA2.out]; simp), if_pos HNB.out]
              have h := HDD.out
              rw [hf, if_pos (by decide)] at h
              unfold worldF
              rw [if_neg (by rw [HF1.out]; simp), if_pos (by rw [h]; decide), h])
            go_wp2
            go_ret
            exact ⟨ret_int (by rw [HE.out]), hbw⟩
          have HD3 := Lib.hid (show firstF nestFault [] loops = firstF nestFault (loops.take (k + 1)) (loops.drop (k + 1)) by
            rw [HDD.out, if_neg]
            unfold nestFault
            rw [if_neg (by rw [HBN.out]; simp), if_neg (by rw [HA2.out]; simp), if_neg (by rw [HNB.out]; simp)]
            simp)
          have HBB2 := Lib.hid B1
          clear B1
          go_wp2
          go_roundw
          case rel => exact ⟨k + 1, HLT.out, by go_num, HD3, HBB2, hbw⟩
          case measure =>
            have := HLT.out
            simp [intOf]
            omega
        · have HF2 := Lib.hid (show firstF nestFault [] loops = 0 by rw [HD.out, List.drop_eq_nil_of_le (by omega)]; rfl)
          have hbw := hbr
          have B1 := HBB.out
          have tc0 : wr.cell? ⟨w.heap.size, 0, none⟩ = some (.slice AC cells.length cc) := B1.cell 0
          have tc1 : wr.cell? ⟨w.heap.size, 1, none⟩ = some (.slice AN loops.length cn) := B1.cell 1
          clear B1 HD
          go_wp2
          clear tc0 tc1
          go_loopw [73] (fun i wr => ∃ k : Nat, k ≤ cells.length ∧ i = .int .i64 k ∧ Hid (∀ x ∈ cells.take k, nestedF loops x.loops = true) ∧ Hid (Blk wr w.heap.size 55 #[.slice AC cells.length cc, .slice AN loops.length cn]) ∧ Below w.heap.size w wr) (fun i _ => cells.length - (intOf i).toNat)
          case atStart => exact ⟨0, Nat.zero_le _, rfl, Lib.hid (by simp), HBB, hbw⟩
          case round =>
            clear HBB hbw
            obtain ⟨k, hk, rfl, HD3, HBB, hbr⟩ := hrel
            have hsr := hbr.size
            by_cases hlt : k < cells.length
            · obtain ⟨ad, ci, rfl, hb, hci, hcell⟩ := (CAt.out.keep (hbr.mono hB)).at_ hlt
              obtain ⟨d, hed⟩ : ∃ d, cells[k] = d := ⟨_, rfl⟩
              have HT1 := Lib.hid (show cells.take (k + 1) = cells.take k ++ [d] by rw [List.take_succ_eq_append_getElem hlt, hed])
              have HIN := Lib.hid (show d ∈ cells by rw [← hed]; exact List.getElem_mem hlt)
              rw [hed] at hci
              have HLT := Lib.hid hlt
              obtain ⟨⟨A1, c1, rfl, hdx, hdc⟩, hd1, hd2, hd3⟩ := hci
              have fc0 : wr.cell? (ad.add (k * 3)) = some (.string d.nm) := hcell 0 _ rfl
              have fc1 : wr.cell? ⟨(ad.add (k * 3)).block, (ad.add (k * 3)).off + 1, none⟩ = some (.int .i64 d.kind) := hcell 1 _ rfl
              have fc2 : wr.cell? ⟨(ad.add (k * 3)).block, (ad.add (k * 3)).off + 2, none⟩ = some (.slice A1 d.loops.length c1) := hcell 2 _ rfl
              have HDX := Lib.hid (And.intro hdx (And.intro hdc hd2))
              clear hcell hed hdx hdc hd1 hd2 hd3
              obtain ⟨nb, hnb⟩ : ∃ b, nestedF loops d.loops = b := ⟨_, rfl⟩
              have HNB := Lib.hid hnb
              go_upto_region 24 with (fail)
              obtain ⟨W1, hW1⟩ : ∃ W1, W1 = wr.alloc (.cells #[.string d.nm, .int .i64 d.kind, .slice A1 d.loops.length c1] 72 (0, 0)) := ⟨_, rfl⟩
              have hb1 : Below wr.heap.size wr W1 := hW1 ▸ (Below.refl _ wr).alloc (Nat.le_refl _) _
              have B4 : Blk W1 wr.heap.size 72 #[.string d.nm, .int .i64 d.kind, .slice A1 d.loops.length c1] := hW1 ▸ Blk.new wr _ _
              rw [← hW1]
              have hbw := hbr.trans (hb1.mono hsr)
              have B1 := HBB.out.below hb1 HBB.out.lt
              have HDX1 := Lib.hid (HDX.out.1.below (hb1.mono (Nat.le_trans hB hsr)))
              have k2 : ∀ w' : World, Below W1.heap.size W1 w' → Calls Tryz.prog 20 #[.slice AN loops.length cn, .slice A1 d.loops.length c1] w' fun e w'' => e = .returned (.bool nb) ∧ Below w'.heap.size w' w'' := fun w' hb' => by
                have hbv := hbw.trans (hb'.mono hbw.size)
                have h := isPlace_any loops AN cn d.loops A1 c1 B w' (NAt.out.keep (hbv.mono hB)) HDX.out.2.2 (HDX1.out.below (hb'.mono (Nat.le_trans hB hbw.size))) HDX.out.2.1 (Nat.le_trans hB hbv.size)
                rw [hnb] at h
                exact h
              have K2 := Lib.hid (k2 W1 (Below.refl _ _))
              have K3 := Lib.hid (Later.call k2)
              clear hW1 hb1 k2 hnb fc0 fc1 fc2
              have tc0 : W1.cell? ⟨w.heap.size, 0, none⟩ = some (.slice (some ad) cells.length cc) := B1.cell 0
              have tc1 : W1.cell? ⟨w.heap.size, 1, none⟩ = some (.slice AN loops.length cn) := B1.cell 1
              have vc0 : W1.cell? ⟨wr.heap.size, 0, none⟩ = some (.string d.nm) := B4.cell 0
              have vc1 : W1.cell? ⟨wr.heap.size, 1, none⟩ = some (.int .i64 d.kind) := B4.cell 1
              have vc2 : W1.cell? ⟨wr.heap.size, 2, none⟩ = some (.slice A1 d.loops.length c1) := B4.cell 2
              go_wp2_with fail
              refine K2.out.mono ?_
              rintro en W4 ⟨rfl, hbn⟩
              have hbw := hbw.trans (hbn.mono hbw.size)
              have B1 := B1.below hbn B1.lt
              clear hbn tc0 tc1 vc0 vc1 vc2
              cases nb
              · have HE := Lib.hid (show worldF cells loops = 9 by
                  unfold worldF
                  rw [if_neg (by rw [HF1.out]; simp), if_neg (by rw [HF2.out]; simp), if_pos (List.any_eq_true.2 ⟨d, HIN.out, by rw [HNB.out]; rfl⟩)])
                go_wp2
                go_ret
                exact ⟨ret_int (by rw [HE.out]), hbw⟩
              have HD4 := Lib.hid (show ∀ x ∈ cells.take (k + 1), nestedF loops x.loops = true by
                rw [HT1.out]
                intro x hx
                rcases List.mem_append.1 hx with h | h
                · exact HD3.out x h
                · rw [List.mem_singleton] at h; rw [h]; exact HNB.out)
              have HBB4 := Lib.hid B1
              clear B1
              go_wp2
              go_roundw
              case rel => exact ⟨k + 1, HLT.out, by go_num, HD4, HBB4, hbw⟩
              case measure =>
                have := HLT.out
                simp [intOf]
                omega
            · have HE := Lib.hid (show worldF cells loops = 0 by
                have h := HD3.out
                rw [List.take_of_length_le (by omega)] at h
                unfold worldF
                rw [if_neg (by rw [HF1.out]; simp), if_neg (by rw [HF2.out]; simp), if_neg]
                intro hc
                obtain ⟨x, hx, hx2⟩ := List.any_eq_true.1 hc
                rw [h x hx] at hx2
                cases hx2)
              go_wp2
              go_ret
              exact ⟨ret_int (by rw [HE.out]), hbr⟩
end Go.Proofs.YtcmccjcelchlhaaGreatDoor
namespace Go.Proofs.YtcmccjcelchlhaaGreatDoor
open Go.RowKit

def fitT (ok : Bool) (k : Int) : Int × Int := if ok then (k, 0) else (0, 8)
theorem fits_any (ok : Bool) (k : Int) (w : World) :
    Calls Tryz.prog 77 #[.bool ok, .int .i64 k] w fun e w' => e = .returned (.tuple #[.int .i64 (fitT ok k).1, .int .i64 (fitT ok k).2]) ∧ w = w' := by
  cases ok
  all_goals
    go_enter Tryz.func77, Tryz.ntmps77
    go_wp2
    go_ret2
    exact ⟨rfl, rfl⟩
theorem pred_any (b : Nat) (k : Int) (w : World) (hc : w.cell? ⟨b, 0, none⟩ = some (.int .i64 k)) (x : Int) :
    Calls Tryz.prog 123 #[.int .i64 x, .pointer (some ⟨b, 0, none⟩)] w fun e w' => e = .returned (.bool (x != k)) ∧ w = w' := by
  go_enter Tryz.func123, Tryz.ntmps123
  go_wp2
  go_ret
  exact ⟨rfl, rfl⟩
theorem pred_at (b : Nat) (k : Int) (w : World) (hc : w.cell? ⟨b, 0, none⟩ = some (.int .i64 k)) : PredAt Tryz.prog 123 #[.pointer (some ⟨b, 0, none⟩)] (fun x : Int => .int .i64 x) (fun x => x != k) w := by
  intro W x hb
  exact (pred_any b k W (Below.cell_of hb hc) x).mono fun _ _ ⟨he, hw⟩ => ⟨he, 0, hw ▸ rfl⟩
theorem ints_cells {w : World} {b o : Nat} {l : List Int} (h : ∀ j u, (numV .i64 l)[j]? = some u → w.cell? ⟨b, o + j, none⟩ = some u) : ∀ j, j < l.length → w.cell? ⟨b, o + j, none⟩ = some (.int .i64 l[j]!) := by
  intro j hj
  refine h j _ ?_
  unfold numV
  rw [List.getElem?_map, List.getElem?_eq_getElem hj]
  simp [hj]
def allB (ks : List Int) (k : Int) : Bool := ks.all (fun x => decide (x = k))
theorem allB_eq (ks : List Int) (k : Int) : allB ks k = !(ks.any (fun x => x != k)) := by
  unfold allB
  rw [Bool.eq_iff_iff]
  simp
theorem cont_any (ks : List Int) (A : Option Addr) (c B : Nat) (b : Nat) (k : Int) (w : World) (hk : ks.length ≤ maxLen) (hx : Reads w B 1 A ks.length (numV .i64 ks)) (hc : w.cell? ⟨b, 0, none⟩ = some (.int .i64 k)) :
    Calls Tryz.prog 122 #[.slice A ks.length c, .func (.func 123) #[] #[.pointer (some ⟨b, 0, none⟩)]] w fun e w' => e = .returned (.bool (!allB ks k)) ∧ Below w.heap.size w w' := by
  unfold maxLen at hk
  rw [allB_eq, Bool.not_not]
  rcases Nat.eq_zero_or_pos ks.length with h0 | h0
  · have e1 := List.eq_nil_of_length_eq_zero h0
    subst e1
    exact (Tryz.slices_ContainsFunc_empty (α := Int) A c _ w).mono fun _ _ ⟨he, hw⟩ => ⟨he, hw ▸ Below.refl _ _⟩
  · obtain ⟨b1, o1, rfl, -, h1⟩ := hx.plain h0
    refine (Tryz.slices_ContainsFunc (α := Int) (fun x => .int .i64 x) (fun x => x != k) 123 _ (enters_of Tryz.func123 (by kernel_rfl) rfl) b1 o1 ks.length c ks w (pred_at b k w hc) (Nat.le_refl _) (by omega) (ints_cells h1)).mono fun _ _ ⟨he, q, hw⟩ => ⟨by rw [he, List.take_length], hw ▸ (Below.refl _ _).drewN q⟩
set_option maxHeartbeats 1000000 in
theorem allOf_any (ks : List Int) (A : Option Addr) (c B : Nat) (k : Int) (w : World) (hk : ks.length ≤ maxLen) (hx : Reads w B 1 A ks.length (numV .i64 ks)) (hB : B ≤ w.heap.size) :
    Calls Tryz.prog 78 #[.slice A ks.length c, .int .i64 k] w fun e w' => e = .returned (.bool (allB ks k)) ∧ Below w.heap.size w w' := by
  have HX := Lib.hid (And.intro hx hB)
  clear hx hB
  go_enter Tryz.func78, Tryz.ntmps78
  go_wp2_with fail
  obtain ⟨W, hW⟩ : ∃ W, W = (w.alloc (.cells #[.int .i64 k] 3 (0, 0))) := ⟨_, rfl⟩
  have hbw : Below w.heap.size w W := by rw [hW]; exact ((Below.refl _ w).alloc (Nat.le_refl _) _)
  have B0 : Blk W (w.heap.size) 3 #[.int .i64 k] := by
    rw [hW]
    have := Blk.new w 3 #[.int .i64 k]
    exact this
  have hsz : W.heap.size = w.heap.size + 1 := by rw [hW]; simp
  rw [← hW]
  clear hW hsz
  refine (cont_any ks A c B w.heap.size k W hk (HX.out.1.below (hbw.mono HX.out.2)) (B0.cell 0)).mono ?_
  rintro e w1 ⟨rfl, hb1⟩
  have hbw := hbw.trans (hb1.mono hbw.size)
  go_wp2
  go_ret
  exact ⟨ret_bool (by simp), hbw⟩
def overT (op k : Int) : Int × Int := if op = 1 then fitT (decide (k = 2)) 2 else if op = 2 then fitT (decide (k = 7)) 2 else if op = 3 ∨ op = 4 then fitT (decide (k = 7)) 7 else fitT (decide (k = 2) || decide (k = 6)) k
set_option maxHeartbeats 1000000 in
theorem overType_any (op k : Int) (w : World) (h1 : 1 ≤ op) (h6 : op ≤ 6) :
    Calls Tryz.prog 40 #[.int .i64 op, .int .i64 k] w fun e w' => e = .returned (.tuple #[.int .i64 (overT op k).1, .int .i64 (overT op k).2]) ∧ w = w' := by
  obtain rfl | rfl | rfl | rfl | rfl | rfl : op = 1 ∨ op = 2 ∨ op = 3 ∨ op = 4 ∨ op = 5 ∨ op = 6 := by omega
  all_goals
    go_enter Tryz.func40, Tryz.ntmps40
    go_wp2_with (go_at_call 77; refine (fits_any _ _ _).mono ?_; rintro e w' ⟨rfl, rfl⟩)
    all_goals
      go_ret2
      exact ⟨ret_val (by simp_all [overT, fitT]), rfl⟩
end Go.Proofs.YtcmccjcelchlhaaGreatDoor
namespace Go.Proofs.YtcmccjcelchlhaaGreatDoor
open Go.RowKit
attribute [local go_sem ↓] Go.wp_at_zero Go.wp_at_succ

def fitR (m k so : Int) : Int × Bool :=
  if m = -1 then (k, so == 0 || so == k) else if m = -2 then (k, (k == 2 || k == 6) && (so == 0 || so == k)) else if m = -3 then (so, k == 5 || k == 3) else (so, m == k)
set_option maxHeartbeats 1000000 in
theorem rfits_any (m k so : Int) (w : World) :
    Calls Tryz.prog 82 #[.int .i64 m, .int .i64 k, .int .i64 so] w fun e w' => e = .returned (.tuple #[.int .i64 (fitR m k so).1, .bool (fitR m k so).2]) ∧ w = w' := by
  by_cases h1 : m = -1
  · subst h1
    go_enter Tryz.func82, Tryz.ntmps82
    go_wp2
    all_goals (go_ret2; exact ⟨ret_val (by simp_all [fitR]), rfl⟩)
  by_cases h2 : m = -2
  · subst h2
    go_enter Tryz.func82, Tryz.ntmps82
    go_wp2
    all_goals (go_ret2; exact ⟨ret_val (by simp_all [fitR]), rfl⟩)
  by_cases h3 : m = -3
  · subst h3
    go_enter Tryz.func82, Tryz.ntmps82
    go_wp2
    all_goals (go_ret2; exact ⟨ret_val (by simp_all [fitR]), rfl⟩)
  have b1 : (m == -1) = false := by simpa using h1
  have b2 : (m == -2) = false := by simpa using h2
  have b3 : (m == -3) = false := by simpa using h3
  have HF := Lib.hid (show fitR m k so = (so, m == k) by unfold fitR; rw [if_neg h1, if_neg h2, if_neg h3])
  clear h1 h2 h3
  go_enter Tryz.func82, Tryz.ntmps82
  go_wp2
  go_ret2
  exact ⟨ret_val (by rw [HF.out]; rfl), rfl⟩
def operL (args : List Int) : List Int → Nat → Int → Option Int
  | [], _, so => some so
  | k :: r, i, so => if (fitR (args.getD (min i (args.length - 1)) 0) k so).2 then operL args r (i + 1) (fitR (args.getD (min i (args.length - 1)) 0) k so).1 else none
def operR (op : Int) (ks : List Int) : Int × Bool := match operL (shArgs op) ks 0 0 with
  | none => (0, false)
  | some so => (if shRes op < 0 then so else shRes op, true)
theorem shArgs_bd (op : Int) (h1 : 1 ≤ op) (h2 : op ≤ 39) : 1 ≤ (shArgs op).length ∧ (shArgs op).length ≤ 3 := by
  obtain rfl | rfl | rfl | rfl | rfl | rfl | rfl | rfl | rfl | rfl | rfl | rfl | rfl | rfl | rfl | rfl | rfl | rfl | rfl | rfl | rfl | rfl | rfl | rfl | rfl | rfl | rfl | rfl | rfl | rfl | rfl | rfl | rfl | rfl | rfl | rfl | rfl | rfl | rfl : op = 1 ∨ op = 2 ∨ op = 3 ∨ op = 4 ∨ op = 5 ∨ op = 6 ∨ op = 7 ∨ op = 8 ∨ op = 9 ∨ op = 10 ∨ op = 11 ∨ op = 12 ∨ op = 13 ∨ op = 14 ∨ op = 15 ∨ op = 16 ∨ op = 17 ∨ op = 18 ∨ op = 19 ∨ op = 20 ∨ op = 21 ∨ op = 22 ∨ op = 23 ∨ op = 24 ∨ op = 25 ∨ op = 26 ∨ op = 27 ∨ op = 28 ∨ op = 29 ∨ op = 30 ∨ op = 31 ∨ op = 32 ∨ op = 33 ∨ op = 34 ∨ op = 35 ∨ op = 36 ∨ op = 37 ∨ op = 38 ∨ op = 39 := by omega
  all_goals decide
set_option maxHeartbeats 2000000 in
set_option maxRecDepth 100000 in
theorem operation_any (op : Int) (ks : List Int) (A : Option Addr) (c B : Nat) (w : World) (h1 : 1 ≤ op) (h2 : op ≤ 39) (hk : ks.length ≤ maxLen) (hx : Reads w B 1 A ks.length (numV .i64 ks)) (hB : B ≤ w.heap.size) :
    Calls Tryz.prog 48 #[.int .i64 op, .slice A ks.length c] w fun e w' => e = .returned (.tuple #[.int .i64 (operR op ks).1, .bool (operR op ks).2]) ∧ Below w.heap.size w w' := by
  have HX := Lib.hid hx
  have HS := Lib.hid (fun w' => shapeOf_any op w' h1 h2)
  obtain ⟨hn1, hn3⟩ := shArgs_bd op h1 h2
  obtain ⟨L, hL⟩ : ∃ L, (shArgs op).length = L := ⟨_, rfl⟩
  obtain ⟨rs, hrs⟩ : ∃ rs, shRes op = rs := ⟨_, rfl⟩
  obtain ⟨m, hm⟩ : ∃ m, shMore op = m := ⟨_, rfl⟩
  have HL := Lib.hid hL
  have HRS := Lib.hid hrs
  have HM := Lib.hid hm
  rw [hL] at hn1 hn3
  unfold maxLen at hk
  clear hx hL hrs hm
  go_enter Tryz.func48, Tryz.ntmps48
  go_wp2_with fail
  refine (HS.out w).mono ?_
  rintro e w1 ⟨rfl, hB1, hb1⟩
  rw [HL.out, HRS.out, HM.out]
  have HB1 := Lib.hid hB1
  clear hB1
  go_upto_region 3 with (fail)
  obtain ⟨W, hW⟩ : ∃ W, W = w1.alloc (.cells #[.slice (some ⟨w.heap.size + 1, 0, none⟩) L L, .int .i64 rs, .bool m] 120 (0, 0)) := ⟨_, rfl⟩
  have hbw : Below w.heap.size w W := hW ▸ hb1.alloc hb1.size _
  have hbB : Below B w W := hbw.mono hB
  have B6 : Blk W w1.heap.size 120 #[.slice (some ⟨w.heap.size + 1, 0, none⟩) L L, .int .i64 rs, .bool m] := hW ▸ Blk.new w1 _ _
  have HBS := Lib.hid (show Blk W (w.heap.size + 1) 3 (numV .i64 (shArgs op)).toArray from hW ▸ HB1.out.alloc _)
  rw [← hW]
  clear hW hb1 HB1
  have sc0 : W.cell? ⟨w1.heap.size, 0, none⟩ = some (.slice (some ⟨w.heap.size + 1, 0, none⟩) L L) := B6.cell 0
  have sc1 : W.cell? ⟨w1.heap.size, 1, none⟩ = some (.int .i64 rs) := B6.cell 1
  have sc2 : W.cell? ⟨w1.heap.size, 2, none⟩ = some (.bool m) := B6.cell 2
  have HXW := Lib.hid (HX.out.below hbB)
  clear B6
  go_wp2
  go_loop [16, 7, 8, 9, 10, 11] (fun i so u8 u9 u10 u11 => ∃ (k : Nat) (s : Int), k ≤ ks.length ∧ i = .int .i64 k ∧ so = .int .i64 s ∧ Hid (operL (shArgs op) ks 0 0 = operL (shArgs op) (ks.drop k) k s)) (fun i _ _ _ _ _ => ks.length - (intOf i).toNat)
  case atStart => exact ⟨0, 0, Nat.zero_le _, rfl, rfl, Lib.hid rfl⟩
  case round =>
    obtain ⟨k, s, hk1, rfl, rfl, HD⟩ := hrel
    by_cases hlt : k < ks.length
    · obtain ⟨ad, u, rfl, hb, hu, hcell⟩ := HXW.out.at_ hlt
      obtain ⟨hkl, rfl⟩ := numV_get _ _ _ _ hu
      obtain ⟨x, hxk⟩ : ∃ x, ks[k] = x := ⟨_, rfl⟩
      rw [hxk] at hcell
      obtain ⟨q, hq⟩ : ∃ q, min k (L - 1) = q := ⟨_, rfl⟩
      have hqL : q < L := by omega
      have hqe : min (k : Int) ((L : Int) - 1) = (q : Nat) := by omega
      have hql : q < (shArgs op).length := by rw [HL.out]; exact hqL
      obtain ⟨mk, hmk⟩ : ∃ mk, (shArgs op).getD q 0 = mk := ⟨_, rfl⟩
      have mc : W.cell? ⟨w.heap.size + 1, q, none⟩ = some (.int .i64 mk) := by
        rw [HBS.out.cell q]
        simp only [numV, List.getElem?_toArray, List.getElem?_map, List.getElem?_eq_getElem hql, Option.map_some]
        rw [← hmk]
        simp [List.getD, hql]
      obtain ⟨f, hf⟩ : ∃ f, fitR mk x s = f := ⟨_, rfl⟩
      obtain ⟨f1, f2⟩ := f
      have HF := Lib.hid hf
      have HDD := Lib.hid (show operL (shArgs op) (ks.drop k) k s = if f2 then operL (shArgs op) (ks.drop (k + 1)) (k + 1) f1 else none by
        rw [List.drop_eq_getElem_cons hlt, hxk, operL, HL.out, hq, hmk, hf])
      have HLT := Lib.hid hlt
      have hq0 : (0 : Int) ≤ (q : Nat) := by omega
      have hq1 : (q : Int) < (L : Nat) := by omega
      have hL1 : (0 : Int) ≤ (L : Int) - 1 := by omega
      clear hu hxk hq hmk hf hql
      go_upto_region 7 with (fail)
      clear hqe
      go_wp2_with fail
      refine (rfits_any mk x s W).mono ?_
      rw [HF.out]
      rintro e w2 ⟨rfl, rfl⟩
      cases f2
      · have HO := Lib.hid (show operR op ks = (0, false) by
          unfold operR
          rw [HD.out, HDD.out]
          rfl)
        go_wp2
        go_ret2
        exact ⟨ret_val (by rw [HO.out]; rfl), hbw⟩
      · have HD2 := Lib.hid (HD.out.trans HDD.out)
        go_wp2
        go_round
        case rel => exact ⟨k + 1, f1, HLT.out, by go_num, rfl, HD2⟩
        case measure =>
          have := HLT.out
          simp [intOf]
          omega
    · have HO := Lib.hid (show operR op ks = (if rs < 0 then s else rs, true) by
        unfold operR
        rw [HD.out, List.drop_eq_nil_of_le (by omega), HRS.out]
        rfl)
      by_cases hr : rs < 0
      · have HO2 := Lib.hid (show operR op ks = (s, true) by rw [HO.out, if_pos hr])
        go_wp2
        go_ret2
        exact ⟨ret_val (by rw [HO2.out]; rfl), hbw⟩
      · have HO2 := Lib.hid (show operR op ks = (rs, true) by rw [HO.out, if_neg hr])
        go_wp2
        go_ret2
        exact ⟨ret_val (by rw [HO2.out]; rfl), hbw⟩
def overK (op k : Int) : Int := if op = 1 ∨ op = 2 then 2 else if op = 3 ∨ op = 4 then 7 else k
def overB (op k : Int) : Bool := if op = 1 then k == 2 else if op = 2 ∨ op = 3 ∨ op = 4 then k == 7 else k == 2 || k == 6
set_option maxHeartbeats 1000000 in
theorem over_any (op k : Int) (w : World) (h1 : 1 ≤ op) (h6 : op ≤ 6) :
    Calls Tryz.prog 80 #[.int .i64 op, .int .i64 k] w fun e w' => e = .returned (.tuple #[.int .i64 (overK op k), .bool (overB op k)]) ∧ w = w' := by
  obtain rfl | rfl | rfl | rfl | rfl | rfl : op = 1 ∨ op = 2 ∨ op = 3 ∨ op = 4 ∨ op = 5 ∨ op = 6 := by omega
  all_goals
    go_enter Tryz.func80, Tryz.ntmps80
    go_wp2
    all_goals
      go_ret2
      exact ⟨ret_val (by simp_all [overK, overB]), rfl⟩
/-- what an aggregate answers: alike -/
theorem over_eq (op k : Int) (h1 : 1 ≤ op) (h6 : op ≤ 6) : overT op k = if overB op k then (overK op k, 0) else (0, 8) := by
  obtain rfl | rfl | rfl | rfl | rfl | rfl : op = 1 ∨ op = 2 ∨ op = 3 ∨ op = 4 ∨ op = 5 ∨ op = 6 := by omega
  all_goals
    simp only [overT, overB, overK, fitT]
    by_cases h2 : k = 2
    · subst h2; rfl
    by_cases h6 : k = 6
    · subst h6; rfl
    by_cases h7 : k = 7
    · subst h7; rfl
    simp [h2, h6, h7]
end Go.Proofs.YtcmccjcelchlhaaGreatDoor
namespace Go.Proofs.YtcmccjcelchlhaaGreatDoor
open Go.RowKit
attribute [local go_sem ↓] Go.wp_at_zero Go.wp_at_succ

theorem fits_later (ok : Bool) (k : Int) (W : World) : ∀ w' : World, Below W.heap.size W w' → Calls Tryz.prog 77 #[.bool ok, .int .i64 k] w' fun e w'' => e = .returned (.tuple #[.int .i64 (fitT ok k).1, .int .i64 (fitT ok k).2]) ∧ Below w'.heap.size w' w'' :=
  fun w' _ => (fits_any ok k w').mono fun _ _ ⟨he, hw⟩ => ⟨he, hw ▸ Below.refl _ _⟩
def kAt (ks : List Int) (i : Nat) : Int := ks.getD i 0
/-- the kind of an operation's result, and the fault -/
def opT (op : Int) (ks : List Int) : Int × Int :=
  if op = 1 ∨ op = 2 ∨ op = 3 then fitT (allB ks 7) 7 else
  if op = 4 ∨ op = 5 then fitT (kAt ks 0 == kAt ks 1) 7 else
  if op = 6 ∨ op = 7 ∨ op = 8 ∨ op = 9 then fitT (allB ks 2 || allB ks 6) 7 else
  if op = 10 then fitT (kAt ks 0 == 4 && kAt ks 1 == 5) 7 else if op = 11 then fitT (kAt ks 0 == 5 && kAt ks 1 == 4) 7 else
  if op = 12 ∨ op = 13 then (7, 0) else if op = 14 then (2, 0) else
  if op = 24 ∨ op = 25 then fitT (allB ks 2 || allB ks 6) (kAt ks 0) else
  if op = 26 then fitT (kAt ks 0 == 7 && kAt ks 1 == kAt ks 2) (kAt ks 1) else if op = 27 then fitT (kAt ks 0 == kAt ks 1) (kAt ks 0) else
  if op = 28 then fitT (kAt ks 0 == 5 || kAt ks 0 == 3) 2 else if op = 29 then fitT (kAt ks 0 == 4) 2 else
  if op = 30 ∨ op = 31 then fitT (allB ks 3) 3 else if op = 32 ∨ op = 33 then fitT (allB ks 3) 7 else
  if op = 34 ∨ op = 35 ∨ op = 36 ∨ op = 37 ∨ op = 38 then fitT (allB ks 6) 2 else
  if op = 39 then fitT (kAt ks 0 == 6 && kAt ks 1 == 2) 6 else fitT (allB ks 2) 2
end Go.Proofs.YtcmccjcelchlhaaGreatDoor
namespace Go.Proofs.YtcmccjcelchlhaaGreatDoor

def okKs (ks : List Int) : Prop := ∀ k ∈ ks, 2 ≤ k ∧ k ≤ 7
def eqO (op : Int) (ks : List Int) : Bool := decide (opT op ks = if (operR op ks).2 then ((operR op ks).1, 0) else (0, 8))
def kinds6 : List Int := [2, 3, 4, 5, 6, 7]
theorem mem_kinds {k : Int} (h : 2 ≤ k ∧ k ≤ 7) : k ∈ kinds6 := by
  obtain rfl | rfl | rfl | rfl | rfl | rfl : k = 2 ∨ k = 3 ∨ k = 4 ∨ k = 5 ∨ k = 6 ∨ k = 7 := by omega
  all_goals decide
def ops1 : List Int := [1, 12, 13, 14, 20, 21, 22, 23, 28, 29, 30, 34, 35, 36]
def ops2 : List Int := [4, 5, 6, 7, 8, 9, 10, 11, 15, 16, 17, 18, 19, 27, 31, 32, 33, 37, 38, 39]
theorem all1 : (ops1.all fun op => kinds6.all fun a => eqO op [a]) = true := by decide +kernel
theorem all2 : (ops2.all fun op => kinds6.all fun a => kinds6.all fun b => eqO op [a, b]) = true := by decide +kernel
theorem all3 : (kinds6.all fun a => kinds6.all fun b => kinds6.all fun d => eqO 26 [a, b, d]) = true := by decide +kernel
theorem operL_7 (r : List Int) : ∀ (i : Nat) (s : Int), operL [7] r i s = if allB r 7 then some s else none := by
  induction r with
  | nil => intro i s; rfl
  | cons a r ih =>
    intro i s
    have e : ([7] : List Int).getD (min i (([7] : List Int).length - 1)) 0 = 7 := by simp
    have ef : fitR 7 a s = (s, (7 : Int) == a) := by simp [fitR]
    rw [operL, e, ef]
    simp only
    rw [ih]
    unfold allB
    rw [List.all_cons]
    by_cases h : a = 7
    · subst h; simp
    · have h' : ((7 : Int) == a) = false := by simpa using fun e => h e.symm
      rw [h']; simp [h]
theorem operL_m2 (r : List Int) : ∀ (i : Nat) (s : Int), s = 2 ∨ s = 6 → operL [-2] r i s = if allB r s then some s else none := by
  induction r with
  | nil => intro i s _; rfl
  | cons a r ih =>
    intro i s hs
    have e : ([-2] : List Int).getD (min i (([-2] : List Int).length - 1)) 0 = -2 := by simp
    have ef : fitR (-2) a s = (a, (a == 2 || a == 6) && (s == 0 || s == a)) := by simp [fitR]
    rw [operL, e, ef]
    simp only
    unfold allB
    rw [List.all_cons]
    by_cases h : a = s
    · subst h
      rw [ih _ _ hs]
      have h' : ((a == 2 || a == 6) && (a == 0 || a == a)) = true := by rcases hs with rfl | rfl <;> decide
      rw [h']
      simp [allB]
    · have h' : ((a == 2 || a == 6) && (s == 0 || s == a)) = false := by
        rcases hs with rfl | rfl <;> simp <;> omega
      rw [h']; simp [h]
theorem opT_eq (op : Int) (ks : List Int) (h1 : 1 ≤ op) (h2 : op ≤ 39) (ha : (arOf op).1 ≤ ks.length ∧ ks.length ≤ (arOf op).2) (hk : okKs ks) : opT op ks = if (operR op ks).2 then ((operR op ks).1, 0) else (0, 8) := by
  by_cases hm : op = 2 ∨ op = 3
  · have hA : shArgs op = [7] := by rcases hm with rfl | rfl <;> rfl
    have hR : shRes op = 7 := by rcases hm with rfl | rfl <;> rfl
    have hO : opT op ks = fitT (allB ks 7) 7 := by unfold opT; rw [if_pos (by omega)]
    rw [hO]
    unfold operR
    rw [hA, hR, operL_7]
    cases allB ks 7 <;> rfl
  by_cases hm4 : op = 24 ∨ op = 25
  · have hA : shArgs op = [-2] := by rcases hm4 with rfl | rfl <;> rfl
    have hR : shRes op = -2 := by rcases hm4 with rfl | rfl <;> rfl
    have hO : opT op ks = fitT (allB ks 2 || allB ks 6) (kAt ks 0) := by rcases hm4 with rfl | rfl <;> rfl
    rw [hO]
    unfold operR
    rw [hA, hR]
    cases ks with
    | nil => exfalso; rcases hm4 with rfl | rfl <;> simp [arOf] at ha
    | cons a r =>
      have e : ([-2] : List Int).getD (min 0 (([-2] : List Int).length - 1)) 0 = -2 := by simp
      have ef : fitR (-2) a 0 = (a, (a == 2 || a == 6) && ((0 : Int) == 0 || (0 : Int) == a)) := by simp [fitR]
      rw [operL, e, ef]
      simp only
      have ek : kAt (a :: r) 0 = a := rfl
      rw [ek]
      by_cases ha2 : a = 2 ∨ a = 6
      · rw [operL_m2 _ _ _ ha2]
        have h' : ((a == 2 || a == 6) && ((0 : Int) == 0 || (0 : Int) == a)) = true := by rcases ha2 with rfl | rfl <;> decide
        have hb : (allB (a :: r) 2 || allB (a :: r) 6) = allB r a := by
          rcases ha2 with rfl | rfl <;> simp [allB]
        rw [h', hb]
        cases allB r a <;> rfl
      · have h' : ((a == 2 || a == 6) && ((0 : Int) == 0 || (0 : Int) == a)) = false := by simp; omega
        have hb : (allB (a :: r) 2 || allB (a :: r) 6) = false := by
          simp [allB]; omega
        rw [h', hb]
        rfl
  by_cases h26 : op = 26
  · subst h26
    obtain ⟨a, b, d, rfl⟩ : ∃ a b d, ks = [a, b, d] := by
      have hl : ks.length = 3 := by simp [arOf] at ha; omega
      match ks, hl with
      | [a, b, d], _ => exact ⟨a, b, d, rfl⟩
    have := List.all_eq_true.1 (List.all_eq_true.1 (List.all_eq_true.1 all3 a (mem_kinds (hk a (by simp)))) b (mem_kinds (hk b (by simp)))) d (mem_kinds (hk d (by simp)))
    exact of_decide_eq_true this
  by_cases h1' : op ∈ ops1
  · obtain ⟨a, rfl⟩ : ∃ a, ks = [a] := by
      have hl : ks.length = 1 := by
        have : arOf op = (1, 1) := by
          unfold ops1 at h1'
          simp only [List.mem_cons, List.not_mem_nil, or_false] at h1'
          unfold arOf
          rw [if_neg (by omega), if_neg h26, if_pos (by omega)]
        rw [this] at ha
        simp at ha; omega
      match ks, hl with
      | [a], _ => exact ⟨a, rfl⟩
    have := List.all_eq_true.1 (List.all_eq_true.1 all1 op h1') a (mem_kinds (hk a (by simp)))
    exact of_decide_eq_true this
  · have hn : ¬(op = 1 ∨ (12 ≤ op ∧ op ≤ 14) ∨ (20 ≤ op ∧ op ≤ 23) ∨ (28 ≤ op ∧ op ≤ 30) ∨ (34 ≤ op ∧ op ≤ 36)) := by
      intro h
      refine h1' ?_
      unfold ops1
      simp only [List.mem_cons, List.not_mem_nil, or_false]
      omega
    have h2' : op ∈ ops2 := by
      unfold ops2
      simp only [List.mem_cons, List.not_mem_nil, or_false]
      omega
    obtain ⟨a, b, rfl⟩ : ∃ a b, ks = [a, b] := by
      have hl : ks.length = 2 := by
        have : arOf op = (2, 2) := by
          unfold arOf
          rw [if_neg (by omega), if_neg h26, if_neg hn, if_pos ⟨h1, h2⟩]
        rw [this] at ha
        simp at ha; omega
      match ks, hl with
      | [a, b], _ => exact ⟨a, b, rfl⟩
    have := List.all_eq_true.1 (List.all_eq_true.1 (List.all_eq_true.1 all2 op h2') a (mem_kinds (hk a (by simp)))) b (mem_kinds (hk b (by simp)))
    exact of_decide_eq_true this
end Go.Proofs.YtcmccjcelchlhaaGreatDoor
