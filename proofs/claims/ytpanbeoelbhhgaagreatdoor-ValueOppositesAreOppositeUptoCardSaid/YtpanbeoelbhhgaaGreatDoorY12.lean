/- The walk of worldOf: cells and loops are checked, and laid into maps. · The walks of beginning and begins, cellAt, nest, isPlace. · The walk of the reference's check of cells and loops. · The walks of allOf, fits, overType, opType. · What opType answers. -/
import Derived.Test.YtpanbeoelbhhgaaGreatDoorY11
namespace Go.Proofs.YtpanbeoelbhhgaaGreatDoor
open Go.RowKit
theorem zeroCell (w : World) : (zeroValue 101).run Tryz.prog w = .ok (.agg #[.string ⟨#[]⟩, .int .i64 0, .slice none 0 0]) w := by kernel_rfl
/-- what worldOf hands back -/
structure WoR (en : Ending) (w w' : World) (B : Nat) (cells : List CellD) (loops : List NestD) : Prop where
  ex : ∃ f : Int, en = .returned (.tuple #[.agg #[.map (some (w.heap.size + 1)), .map (some (w.heap.size + 1 + 1))], .int .i64 f]) ∧ f = worldF cells loops ∧ (f = 0 → ∃ kv1 kv2, MapIs w' (w.heap.size + 1) kv1 ∧ MapIs w' (w.heap.size + 1 + 1) kv2 ∧ KvC w' B kv1 cells ∧ KvN w' B kv2 loops)
  hb : Below w.heap.size w w'
set_option maxHeartbeats 8000000 in
set_option maxRecDepth 100000 in
theorem worldOf_any (cells : List CellD) (loops : List NestD) (AC : Option Addr) (cc : Nat) (AN : Option Addr) (cn B : Nat) (w : World) (hC : CellsAt w B AC cells) (hN : NestsAt w B AN loops) (hB : B ≤ w.heap.size) :
    Calls Tryz.prog 22 #[.slice AC cells.length cc, .slice AN loops.length cn] w fun en w' => WoR en w w' B cells loops := by
  have CAt := Lib.hid hC
  have NAt := Lib.hid hN
  have hcl := hC.1
  have hnl := hN.1
  unfold maxLen at hcl hnl
  have HCL := Lib.hid (And.intro hC.1 hN.1)
  clear hC hN
  have hmm := @run_makeMap Tryz.prog
  go_enter Tryz.func22, Tryz.ntmps22
  go_wp2
  obtain ⟨W, hW⟩ : ∃ W, W = (((w.alloc (.cells #[.map none, .map none] 57 (0, 0))).alloc (.map #[] 0)).alloc (.map #[] 0)).alloc (.cells #[.map (some (w.heap.size + 1)), .map (some (w.heap.size + 1 + 1))] 57 (0, 0)) := ⟨_, rfl⟩
  rw [← hW]
  clear hmm
  have hbw : Below w.heap.size w W := hW ▸ ((((Below.refl _ w).alloc (Nat.le_refl _) _).alloc (by simp) _).alloc (by simp; try omega) _).alloc (by simp; try omega) _
  have BR : Blk W w.heap.size 57 #[.map none, .map none] := hW ▸ (((Blk.new w _ _).alloc _).alloc _).alloc _
  have B6 : Blk W (w.heap.size + 1 + 1 + 1) 57 #[.map (some (w.heap.size + 1)), .map (some (w.heap.size + 1 + 1))] := by
    rw [hW]
    have := Blk.new (((w.alloc (.cells #[.map none, .map none] 57 (0, 0))).alloc (.map #[] 0)).alloc (.map #[] 0)) 57 #[.map (some (w.heap.size + 1)), .map (some (w.heap.size + 1 + 1))]
    rwa [World.size_alloc, World.size_alloc, World.size_alloc] at this
  have HM1 := Lib.hid (show MapIs W (w.heap.size + 1) [] by
    rw [hW]
    have := ((MapIs.made (w.alloc (.cells #[.map none, .map none] 57 (0, 0)))).alloc (.map #[] 0)).alloc (.cells #[.map (some (w.heap.size + 1)), .map (some (w.heap.size + 1 + 1))] 57 (0, 0))
    rwa [World.size_alloc] at this)
  have HM2 := Lib.hid (show MapIs W (w.heap.size + 1 + 1) [] by
    rw [hW]
    have := (MapIs.made ((w.alloc (.cells #[.map none, .map none] 57 (0, 0))).alloc (.map #[] 0))).alloc (.cells #[.map (some (w.heap.size + 1)), .map (some (w.heap.size + 1 + 1))] 57 (0, 0))
    rwa [World.size_alloc, World.size_alloc] at this)
  have HBB := Lib.hid (And.intro BR B6)
  clear hW BR B6
  go_loopw [22] (fun i wr => ∃ (k : Nat) (kv1 : List (ByteArray × Value)), k ≤ cells.length ∧ i = .int .i64 k ∧ Hid (firstF cellFault [] cells = firstF cellFault (cells.take k) (cells.drop k)) ∧ Hid (MapIs wr (w.heap.size + 1) kv1 ∧ KvC wr B kv1 (cells.take k)) ∧ Hid (MapIs wr (w.heap.size + 1 + 1) []) ∧ Hid (Blk wr (w.heap.size) 57 #[.map none, .map none] ∧ Blk wr (w.heap.size + 1 + 1 + 1) 57 #[.map (some (w.heap.size + 1)), .map (some (w.heap.size + 1 + 1))]) ∧ Below w.heap.size w wr) (fun i _ => cells.length - (intOf i).toNat)
  case atStart => exact ⟨0, [], Nat.zero_le _, rfl, Lib.hid rfl, Lib.hid ⟨HM1.out, KvC.nil _ _⟩, HM2, HBB, hbw⟩
  case round =>
    obtain ⟨k, kv1, hk, rfl, HD, HMK, HO, HBB, hbr⟩ := hrel
    have hsr := hbr.size
    have hbr0 := hbr.mono hB
    have hgr : w.heap.size + 1 + 1 + 1 < wr.heap.size := HBB.out.2.lt
    by_cases hlt : k < cells.length
    · obtain ⟨ad, ci, rfl, hb, hci, hcell⟩ := (CAt.out.keep hbr0).at_ hlt
      obtain ⟨d, hed⟩ : ∃ d, cells[k] = d := ⟨_, rfl⟩
      have HDD := Lib.hid (show firstF cellFault [] cells = if cellFault (cells.take k) d ≠ 0 then cellFault (cells.take k) d else firstF cellFault (cells.take (k + 1)) (cells.drop (k + 1)) by
        rw [HD.out, List.drop_eq_getElem_cons hlt, hed, firstF, List.take_succ_eq_append_getElem hlt, hed])
      have HT1 := Lib.hid (show cells.take (k + 1) = cells.take k ++ [d] by rw [List.take_succ_eq_append_getElem hlt, hed])
      rw [hed] at hci
      have HLT := Lib.hid hlt
      have HCI := Lib.hid hci
      obtain ⟨⟨A, c, rfl, hdx, hdc⟩, hd1, hd2, hd3⟩ := hci
      have fc0 : wr.cell? (ad.add (k * 3)) = some (.string d.nm) := hcell 0 _ rfl
      have fc1 : wr.cell? ⟨(ad.add (k * 3)).block, (ad.add (k * 3)).off + 1, none⟩ = some (.int .i64 d.kind) := hcell 1 _ rfl
      have fc2 : wr.cell? ⟨(ad.add (k * 3)).block, (ad.add (k * 3)).off + 2, none⟩ = some (.slice A d.loops.length c) := hcell 2 _ rfl
      have HDX := Lib.hid (And.intro hdx (And.intro hdc (And.intro hd2 hd3)))
      clear hcell hed hdx hdc hd2 hd3
      go_wp2_with fail
      obtain ⟨W1, hW1⟩ : ∃ W1, W1 = wr.alloc (.cells #[.string d.nm, .int .i64 d.kind, .slice A d.loops.length c] 101 (0, 0)) := ⟨_, rfl⟩
      have hb1 : Below wr.heap.size wr W1 := hW1 ▸ (Below.refl _ wr).alloc (Nat.le_refl _) _
      have B8 : Blk W1 wr.heap.size 101 #[.string d.nm, .int .i64 d.kind, .slice A d.loops.length c] := hW1 ▸ Blk.new wr _ _
      rw [← hW1]
      have hbw := hbr.trans (hb1.mono hsr)
      have BR := HBB.out.1.below hb1 HBB.out.1.lt
      have B6 := HBB.out.2.below hb1 HBB.out.2.lt
      have HMK1 := Lib.hid (And.intro (HMK.out.1.below hb1 HMK.out.1.lt) (HMK.out.2.keep (hb1.mono (Nat.le_trans hB hsr))))
      have HCI1 := Lib.hid (HCI.out.keep (hb1.mono (Nat.le_trans hB hsr)))
      obtain ⟨bn, hbn⟩ : ∃ b, isNameF d.nm.data.toList = b := ⟨_, rfl⟩
      have HBN := Lib.hid hbn
      clear hbn fc0 fc1 fc2
      refine (IsName_any d.nm W1 hd1).mono ?_
      rw [HBN.out]
      rintro en w2 ⟨rfl, rfl⟩
      have rc0 : W1.cell? ⟨w.heap.size, 0, none⟩ = some (.map none) := BR.cell 0
      have rz0 : W1.frozen? ⟨w.heap.size, 0, none⟩ = false := BR.frozen 0
      have rc1 : W1.cell? ⟨w.heap.size, 1, none⟩ = some (.map none) := BR.cell 1
      have rz1 : W1.frozen? ⟨w.heap.size, 1, none⟩ = false := BR.frozen 1
      have sc0 : W1.cell? ⟨w.heap.size + 1 + 1 + 1, 0, none⟩ = some (.map (some (w.heap.size + 1))) := B6.cell 0
      have sc1 : W1.cell? ⟨w.heap.size + 1 + 1 + 1, 1, none⟩ = some (.map (some (w.heap.size + 1 + 1))) := B6.cell 1
      have vc0 : W1.cell? ⟨wr.heap.size, 0, none⟩ = some (.string d.nm) := B8.cell 0
      have vc1 : W1.cell? ⟨wr.heap.size, 1, none⟩ = some (.int .i64 d.kind) := B8.cell 1
      have vc2 : W1.cell? ⟨wr.heap.size, 2, none⟩ = some (.slice A d.loops.length c) := B8.cell 2
      cases bn
      · have HE := Lib.hid (show worldF cells loops = 5 by
          have h := HDD.out
          rw [if_pos (by unfold cellFault; rw [if_pos HBN.out]; decide)] at h
          unfold worldF
          rw [if_pos (by rw [h]; unfold cellFault; rw [if_pos HBN.out]; decide), h]; unfold cellFault; rw [if_pos HBN.out])
        clear hW1
        go_wp2
        obtain ⟨W9, hW9⟩ : ∃ W9, W9 = (W1.setCell ⟨w.heap.size, 0, none⟩ (.map (some (w.heap.size + 1)))).setCell ⟨w.heap.size, 1, none⟩ (.map (some (w.heap.size + 1 + 1))) := ⟨_, rfl⟩
        have B9 : Blk W9 (w.heap.size) 57 #[.map (some (w.heap.size + 1)), .map (some (w.heap.size + 1 + 1))] := hW9 ▸ ((BR.set_ 0 _).set_ 1 _)
        have hbw9 : Below w.heap.size w W9 := hW9 ▸ ((hbw.setCell (p := ⟨w.heap.size, 0, none⟩) (Nat.le_refl _) _).setCell (p := ⟨w.heap.size, 1, none⟩) (Nat.le_refl _) _)
        rw [← hW9]
        clear hW9
        have qc0 : W9.cell? ⟨w.heap.size, 0, none⟩ = some (.map (some (w.heap.size + 1))) := B9.cell 0
        have qc1 : W9.cell? ⟨w.heap.size, 1, none⟩ = some (.map (some (w.heap.size + 1 + 1))) := B9.cell 1
        exact bodyPost_ret (v := .tuple #[.agg #[.map (some (w.heap.size + 1)), .map (some (w.heap.size + 1 + 1))], .int .i64 5]) (by simp [results, Tryz.results22, go_sem, qc0, qc1]) rfl ⟨⟨5, rfl, HE.out.symm, fun h => by cases h⟩, hbw9⟩
      cases hg : getK kv1 d.nm with
      | some v =>
        obtain ⟨d', cs', hm1, hm2, rfl, hm4⟩ := HMK.out.2.yes _ _ hg
        obtain ⟨⟨A2, c2, rfl, -, -⟩, -, -, -⟩ := hm4
        have hlk : (Instr.lookup 54 (.map (some (w.heap.size + 1))) (.string d.nm) true).run Tryz.prog W1 = .ok (.tuple #[.agg #[.string d'.nm, .int .i64 d'.kind, .slice A2 d'.loops.length c2], .bool true]) W1 := by
          have h := HMK1.out.1.look Tryz.underlying54 (zeroCell W1) hd1
          rw [hg] at h
          exact h
        have HE := Lib.hid (show worldF cells loops = 6 by
          have hany : (cells.take k).any (fun x => decide (x.nm = d.nm)) = true := any_name' (f := CellD.nm) hm1 hm2
          have hf : cellFault (cells.take k) d = 6 := by unfold cellFault; rw [if_neg (by rw [HBN.out]; simp), if_pos hany]
          have h := HDD.out
          rw [hf, if_pos (by decide)] at h
          unfold worldF
          rw [if_pos (by rw [h]; decide), h])
        clear hg hm1 hm2 hW1
        go_upto_region 8 with (fail)
        obtain ⟨W2, hW2⟩ : ∃ W2, W2 = W1.alloc (.cells #[.string d'.nm, .int .i64 d'.kind, .slice A2 d'.loops.length c2] 101 (0, 0)) := ⟨_, rfl⟩
        have hb2 : Below W1.heap.size W1 W2 := hW2 ▸ (Below.refl _ W1).alloc (Nat.le_refl _) _
        rw [← hW2]
        have hbw := hbw.trans (hb2.mono hbw.size)
        have BR := BR.below hb2 BR.lt
        have B6 := B6.below hb2 B6.lt
        clear hW2 hb2 hlk rc0 rz0 rc1 rz1 sc0 sc1 vc0 vc1 vc2
        have rc0 : W2.cell? ⟨w.heap.size, 0, none⟩ = some (.map none) := BR.cell 0
        have rz0 : W2.frozen? ⟨w.heap.size, 0, none⟩ = false := BR.frozen 0
        have rc1 : W2.cell? ⟨w.heap.size, 1, none⟩ = some (.map none) := BR.cell 1
        have rz1 : W2.frozen? ⟨w.heap.size, 1, none⟩ = false := BR.frozen 1
        have sc0 : W2.cell? ⟨w.heap.size + 1 + 1 + 1, 0, none⟩ = some (.map (some (w.heap.size + 1))) := B6.cell 0
        have sc1 : W2.cell? ⟨w.heap.size + 1 + 1 + 1, 1, none⟩ = some (.map (some (w.heap.size + 1 + 1))) := B6.cell 1
        go_wp2
        obtain ⟨W9, hW9⟩ : ∃ W9, W9 = (W2.setCell ⟨w.heap.size, 0, none⟩ (.map (some (w.heap.size + 1)))).setCell ⟨w.heap.size, 1, none⟩ (.map (some (w.heap.size + 1 + 1))) := ⟨_, rfl⟩
        have B9 : Blk W9 (w.heap.size) 57 #[.map (some (w.heap.size + 1)), .map (some (w.heap.size + 1 + 1))] := hW9 ▸ ((BR.set_ 0 _).set_ 1 _)
        have hbw9 : Below w.heap.size w W9 := hW9 ▸ ((hbw.setCell (p := ⟨w.heap.size, 0, none⟩) (Nat.le_refl _) _).setCell (p := ⟨w.heap.size, 1, none⟩) (Nat.le_refl _) _)
        rw [← hW9]
        clear hW9
        have qc0 : W9.cell? ⟨w.heap.size, 0, none⟩ = some (.map (some (w.heap.size + 1))) := B9.cell 0
        have qc1 : W9.cell? ⟨w.heap.size, 1, none⟩ = some (.map (some (w.heap.size + 1 + 1))) := B9.cell 1
        exact bodyPost_ret (v := .tuple #[.agg #[.map (some (w.heap.size + 1)), .map (some (w.heap.size + 1 + 1))], .int .i64 6]) (by simp [results, Tryz.results22, go_sem, qc0, qc1]) rfl ⟨⟨6, rfl, HE.out.symm, fun h => by cases h⟩, hbw9⟩
      | none =>
        have hlk : (Instr.lookup 54 (.map (some (w.heap.size + 1))) (.string d.nm) true).run Tryz.prog W1 = .ok (.tuple #[.agg #[.string ⟨#[]⟩, .int .i64 0, .slice none 0 0], .bool false]) W1 := by
          have h := HMK1.out.1.look Tryz.underlying54 (zeroCell W1) hd1
          rw [hg] at h
          exact h
        have HG := Lib.hid hg
        have HANY := Lib.hid (show (cells.take k).any (fun x => decide (x.nm = d.nm)) = false from any_name (f := CellD.nm) (HMK1.out.2.no _ hg))
        clear hg hW1
        go_upto_region 8 with (fail)
        obtain ⟨W2, hW2⟩ : ∃ W2, W2 = W1.alloc (.cells #[.string ⟨#[]⟩, .int .i64 0, .slice none 0 0] 101 (0, 0)) := ⟨_, rfl⟩
        have hb2 : Below W1.heap.size W1 W2 := hW2 ▸ (Below.refl _ W1).alloc (Nat.le_refl _) _
        rw [← hW2]
        have hbw := hbw.trans (hb2.mono hbw.size)
        have BR := BR.below hb2 BR.lt
        have B6 := B6.below hb2 B6.lt
        have B8 := B8.below hb2 B8.lt
        have HMK2 := Lib.hid (And.intro (HMK1.out.1.below hb2 HMK1.out.1.lt) (HMK1.out.2.keep (hb2.mono (Nat.le_trans hB (Nat.le_trans hsr hb1.size)))))
        have HCI2 := Lib.hid (HCI1.out.keep (hb2.mono (Nat.le_trans hB (Nat.le_trans hsr hb1.size))))
        have hs2 : wr.heap.size < W2.heap.size := B8.lt
        have hbX := hb1.trans (hb2.mono hb1.size)
        clear hW2 hlk rc0 rz0 rc1 rz1 sc0 sc1 vc0 vc1 vc2 HMK1 HCI1
        have rc0 : W2.cell? ⟨w.heap.size, 0, none⟩ = some (.map none) := BR.cell 0
        have rz0 : W2.frozen? ⟨w.heap.size, 0, none⟩ = false := BR.frozen 0
        have rc1 : W2.cell? ⟨w.heap.size, 1, none⟩ = some (.map none) := BR.cell 1
        have rz1 : W2.frozen? ⟨w.heap.size, 1, none⟩ = false := BR.frozen 1
        have sc0 : W2.cell? ⟨w.heap.size + 1 + 1 + 1, 0, none⟩ = some (.map (some (w.heap.size + 1))) := B6.cell 0
        have sc1 : W2.cell? ⟨w.heap.size + 1 + 1 + 1, 1, none⟩ = some (.map (some (w.heap.size + 1 + 1))) := B6.cell 1
        have vc0 : W2.cell? ⟨wr.heap.size, 0, none⟩ = some (.string d.nm) := B8.cell 0
        have vc1 : W2.cell? ⟨wr.heap.size, 1, none⟩ = some (.int .i64 d.kind) := B8.cell 1
        have vc2 : W2.cell? ⟨wr.heap.size, 2, none⟩ = some (.slice A d.loops.length c) := B8.cell 2
        obtain ⟨ok, hok⟩ : ∃ b, outB d.kind 2 7 = b := ⟨_, rfl⟩
        have HOK := Lib.hid hok
        clear hok
        go_wp2_with fail
        refine (outside_any d.kind 2 7 W2).mono ?_
        rw [HOK.out]
        rintro en w3 ⟨rfl, rfl⟩
        cases ok
        rotate_left
        · have HE := Lib.hid (show worldF cells loops = 4 by
            have hf : cellFault (cells.take k) d = 4 := by unfold cellFault; rw [if_neg (by rw [HBN.out]; simp), if_neg (by rw [HANY.out]; simp), if_pos HOK.out]
            have h := HDD.out
            rw [hf, if_pos (by decide)] at h
            unfold worldF
            rw [if_pos (by rw [h]; decide), h])
          go_wp2
          obtain ⟨W9, hW9⟩ : ∃ W9, W9 = (W2.setCell ⟨w.heap.size, 0, none⟩ (.map (some (w.heap.size + 1)))).setCell ⟨w.heap.size, 1, none⟩ (.map (some (w.heap.size + 1 + 1))) := ⟨_, rfl⟩
          have B9 : Blk W9 (w.heap.size) 57 #[.map (some (w.heap.size + 1)), .map (some (w.heap.size + 1 + 1))] := hW9 ▸ ((BR.set_ 0 _).set_ 1 _)
          have hbw9 : Below w.heap.size w W9 := hW9 ▸ ((hbw.setCell (p := ⟨w.heap.size, 0, none⟩) (Nat.le_refl _) _).setCell (p := ⟨w.heap.size, 1, none⟩) (Nat.le_refl _) _)
          rw [← hW9]
          clear hW9
          have qc0 : W9.cell? ⟨w.heap.size, 0, none⟩ = some (.map (some (w.heap.size + 1))) := B9.cell 0
          have qc1 : W9.cell? ⟨w.heap.size, 1, none⟩ = some (.map (some (w.heap.size + 1 + 1))) := B9.cell 1
          exact bodyPost_ret (v := .tuple #[.agg #[.map (some (w.heap.size + 1)), .map (some (w.heap.size + 1 + 1))], .int .i64 4]) (by simp [results, Tryz.results22, go_sem, qc0, qc1]) rfl ⟨⟨4, rfl, HE.out.symm, fun h => by cases h⟩, hbw9⟩
        have HZ := Lib.hid (show cellFault (cells.take k) d = 0 by unfold cellFault; rw [if_neg (by rw [HBN.out]; simp), if_neg (by rw [HANY.out]; simp), if_neg (by rw [HOK.out]; simp)])
        go_wp2_with (at_mapUpdate; refine wpList_store_map rfl _ _ _ 54 101 rfl Tryz.underlying54 rfl HMK2.out.1 ?c1 rfl rfl ?c2 ?_)
        case c1 =>
          have h1 := HMK2.out.2.len
          have h2 : (cells.take k).length ≤ cells.length := List.length_take_le' _ _
          rw [h1]
          unfold maxLen
          have := HLT.out
          rw [List.length_take]
          omega
        case c2 => exact hd1
        intro W3 hmp hg3
        have hs3 : W2.heap.size ≤ W3.heap.size := hg3.size
        have hmB : B ≤ w.heap.size + 1 := by omega
        have hb3 : Below w.heap.size w W3 := hbw.grown hg3 hbw.size (fun g hg => by injection hg with hg; omega)
        have hbB : Below B W2 W3 := ((Below.refl B W2).grown hg3 (by omega) (fun g hg => by injection hg with hg; omega))
        have HMK3 := Lib.hid (show MapIs W3 (w.heap.size + 1) _ ∧ KvC W3 B _ (cells.take (k + 1)) from ⟨hmp, by rw [HT1.out]; exact (HMK2.out.2.keep hbB).add (HCI2.out.keep hbB) HG.out⟩)
        have HB3 := Lib.hid (show Blk W3 (w.heap.size) 57 #[.map none, .map none] ∧ Blk W3 (w.heap.size + 1 + 1 + 1) 57 #[.map (some (w.heap.size + 1)), .map (some (w.heap.size + 1 + 1))] from ⟨BR.grown hg3 (by simp; try omega), B6.grown hg3 (by simp; try omega)⟩)
        have HO3 := Lib.hid ((HO.out.below hbX HO.out.lt).kept hg3 (by simp; try omega))
        have HD3 := Lib.hid (show firstF cellFault [] cells = firstF cellFault (cells.take (k + 1)) (cells.drop (k + 1)) by rw [HDD.out, if_neg (by rw [HZ.out]; simp)])
        clear hg3 hbB rc0 rz0 rc1 rz1 sc0 sc1 vc0 vc1 vc2
        go_wp2
        go_roundw
        case rel => exact ⟨k + 1, _, HLT.out, by go_num, HD3, HMK3, HO3, HB3, hb3⟩
        case measure =>
          have := HLT.out
          simp [intOf]
          omega
    · have hke : cells.take k = cells := List.take_of_length_le (by omega)
      have HF1 := Lib.hid (show firstF cellFault [] cells = 0 by rw [HD.out, List.drop_eq_nil_of_le (by omega)]; rfl)
      rw [hke] at HMK
      clear hke
      have HO1 := Lib.hid (show MapIs wr (w.heap.size + 1 + 1) [] from HO.out)
      have HO2 := Lib.hid HMK.out
      have hbw := hbr
      clear HD
      go_wp2
      go_loopw [53] (fun i wr => ∃ (k : Nat) (kv2 : List (ByteArray × Value)), k ≤ loops.length ∧ i = .int .i64 k ∧ Hid (firstF nestFault [] loops = firstF nestFault (loops.take k) (loops.drop k)) ∧ Hid (MapIs wr (w.heap.size + 1 + 1) kv2 ∧ KvN wr B kv2 (loops.take k)) ∧ Hid (MapIs wr (w.heap.size + 1) kv1 ∧ KvC wr B kv1 cells) ∧ Hid (Blk wr (w.heap.size) 57 #[.map none, .map none] ∧ Blk wr (w.heap.size + 1 + 1 + 1) 57 #[.map (some (w.heap.size + 1)), .map (some (w.heap.size + 1 + 1))]) ∧ Below w.heap.size w wr) (fun i _ => loops.length - (intOf i).toNat)
      case atStart => exact ⟨0, [], Nat.zero_le _, rfl, Lib.hid rfl, Lib.hid ⟨HO1.out, KvN.nil _ _⟩, HO2, HBB, hbw⟩
      case round =>
        clear HO2 HO1 HMK HO HBB hbr hbr0 hgr hsr hbw
        obtain ⟨k, kv2, hk, rfl, HD, HMK, HO, HBB, hbr⟩ := hrel
        have hsr := hbr.size
        have hbr0 := hbr.mono hB
        have hgr : w.heap.size + 1 + 1 + 1 < wr.heap.size := HBB.out.2.lt
        by_cases hlt : k < loops.length
        · obtain ⟨ad, ci, rfl, hb, hci, hcell⟩ := (NAt.out.keep hbr0).at_ hlt
          obtain ⟨d, hed⟩ : ∃ d, loops[k] = d := ⟨_, rfl⟩
          have HDD := Lib.hid (show firstF nestFault [] loops = if nestFault (loops.take k) d ≠ 0 then nestFault (loops.take k) d else firstF nestFault (loops.take (k + 1)) (loops.drop (k + 1)) by
            rw [HD.out, List.drop_eq_getElem_cons hlt, hed, firstF, List.take_succ_eq_append_getElem hlt, hed])
          have HT1 := Lib.hid (show loops.take (k + 1) = loops.take k ++ [d] by rw [List.take_succ_eq_append_getElem hlt, hed])
          rw [hed] at hci
          have HLT := Lib.hid hlt
          have HCI := Lib.hid hci
          obtain ⟨⟨A, c, rfl, hdx, hdc⟩, hd1, hd2, hd3⟩ := hci
          have fc0 : wr.cell? (ad.add (k * 2)) = some (.string d.nm) := hcell 0 _ rfl
          have fc1 : wr.cell? ⟨(ad.add (k * 2)).block, (ad.add (k * 2)).off + 1, none⟩ = some (.slice A d.loops.length c) := hcell 1 _ rfl
          have HDX := Lib.hid (And.intro hdx (And.intro hdc (And.intro hd2 hd3)))
          clear hcell hed hdx hdc hd2 hd3
          go_wp2_with fail
          obtain ⟨W1, hW1⟩ : ∃ W1, W1 = wr.alloc (.cells #[.string d.nm, .slice A d.loops.length c] 97 (0, 0)) := ⟨_, rfl⟩
          have hb1 : Below wr.heap.size wr W1 := hW1 ▸ (Below.refl _ wr).alloc (Nat.le_refl _) _
          have B8 : Blk W1 wr.heap.size 97 #[.string d.nm, .slice A d.loops.length c] := hW1 ▸ Blk.new wr _ _
          rw [← hW1]
          have hbw := hbr.trans (hb1.mono hsr)
          have BR := HBB.out.1.below hb1 HBB.out.1.lt
          have B6 := HBB.out.2.below hb1 HBB.out.2.lt
          have HMK1 := Lib.hid (And.intro (HMK.out.1.below hb1 HMK.out.1.lt) (HMK.out.2.keep (hb1.mono (Nat.le_trans hB hsr))))
          have HCI1 := Lib.hid (HCI.out.keep (hb1.mono (Nat.le_trans hB hsr)))
          obtain ⟨bn, hbn⟩ : ∃ b, isNameF d.nm.data.toList = b := ⟨_, rfl⟩
          have HBN := Lib.hid hbn
          clear hbn fc0 fc1
          refine (IsName_any d.nm W1 hd1).mono ?_
          rw [HBN.out]
          rintro en w2 ⟨rfl, rfl⟩
          have rc0 : W1.cell? ⟨w.heap.size, 0, none⟩ = some (.map none) := BR.cell 0
          have rz0 : W1.frozen? ⟨w.heap.size, 0, none⟩ = false := BR.frozen 0
          have rc1 : W1.cell? ⟨w.heap.size, 1, none⟩ = some (.map none) := BR.cell 1
          have rz1 : W1.frozen? ⟨w.heap.size, 1, none⟩ = false := BR.frozen 1
          have sc0 : W1.cell? ⟨w.heap.size + 1 + 1 + 1, 0, none⟩ = some (.map (some (w.heap.size + 1))) := B6.cell 0
          have sc1 : W1.cell? ⟨w.heap.size + 1 + 1 + 1, 1, none⟩ = some (.map (some (w.heap.size + 1 + 1))) := B6.cell 1
          have vc0 : W1.cell? ⟨wr.heap.size, 0, none⟩ = some (.string d.nm) := B8.cell 0
          have vc1 : W1.cell? ⟨wr.heap.size, 1, none⟩ = some (.slice A d.loops.length c) := B8.cell 1
          cases bn
          · have HE := Lib.hid (show worldF cells loops = 5 by
              have h := HDD.out
              rw [if_pos (by unfold nestFault; rw [if_pos HBN.out]; decide)] at h
              unfold worldF
              rw [if_neg (by rw [HF1.out]; simp), if_pos (by rw [h]; unfold nestFault; rw [if_pos HBN.out]; decide), h]; unfold nestFault; rw [if_pos HBN.out])
            clear hW1
            go_wp2
            obtain ⟨W9, hW9⟩ : ∃ W9, W9 = (W1.setCell ⟨w.heap.size, 0, none⟩ (.map (some (w.heap.size + 1)))).setCell ⟨w.heap.size, 1, none⟩ (.map (some (w.heap.size + 1 + 1))) := ⟨_, rfl⟩
            have B9 : Blk W9 (w.heap.size) 57 #[.map (some (w.heap.size + 1)), .map (some (w.heap.size + 1 + 1))] := hW9 ▸ ((BR.set_ 0 _).set_ 1 _)
            have hbw9 : Below w.heap.size w W9 := hW9 ▸ ((hbw.setCell (p := ⟨w.heap.size, 0, none⟩) (Nat.le_refl _) _).setCell (p := ⟨w.heap.size, 1, none⟩) (Nat.le_refl _) _)
            rw [← hW9]
            clear hW9
            have qc0 : W9.cell? ⟨w.heap.size, 0, none⟩ = some (.map (some (w.heap.size + 1))) := B9.cell 0
            have qc1 : W9.cell? ⟨w.heap.size, 1, none⟩ = some (.map (some (w.heap.size + 1 + 1))) := B9.cell 1
            exact bodyPost_ret (v := .tuple #[.agg #[.map (some (w.heap.size + 1)), .map (some (w.heap.size + 1 + 1))], .int .i64 5]) (by simp [results, Tryz.results22, go_sem, qc0, qc1]) rfl ⟨⟨5, rfl, HE.out.symm, fun h => by cases h⟩, hbw9⟩
          cases hg : getK kv2 d.nm with
          | some v =>
            obtain ⟨d', cs', hm1, hm2, rfl, hm4⟩ := HMK.out.2.yes _ _ hg
            obtain ⟨⟨A2, c2, rfl, -, -⟩, -, -, -⟩ := hm4
            have hlk : (Instr.lookup 55 (.map (some (w.heap.size + 1 + 1))) (.string d.nm) true).run Tryz.prog W1 = .ok (.tuple #[.agg #[.string d'.nm, .slice A2 d'.loops.length c2], .bool true]) W1 := by
              have h := HMK1.out.1.look Tryz.underlying55 (zeroNest W1) hd1
              rw [hg] at h
              exact h
            have HE := Lib.hid (show worldF cells loops = 6 by
              have hany : (loops.take k).any (fun x => decide (x.nm = d.nm)) = true := any_name' (f := NestD.nm) hm1 hm2
              have hf : nestFault (loops.take k) d = 6 := by unfold nestFault; rw [if_neg (by rw [HBN.out]; simp), if_pos hany]
              have h := HDD.out
              rw [hf, if_pos (by decide)] at h
              unfold worldF
              rw [if_neg (by rw [HF1.out]; simp), if_pos (by rw [h]; decide), h])
            clear hg hm1 hm2 hW1
            go_upto_region 20 with (fail)
            obtain ⟨W2, hW2⟩ : ∃ W2, W2 = W1.alloc (.cells #[.string d'.nm, .slice A2 d'.loops.length c2] 97 (0, 0)) := ⟨_, rfl⟩
            have hb2 : Below W1.heap.size W1 W2 := hW2 ▸ (Below.refl _ W1).alloc (Nat.le_refl _) _
            rw [← hW2]
            have hbw := hbw.trans (hb2.mono hbw.size)
            have BR := BR.below hb2 BR.lt
            have B6 := B6.below hb2 B6.lt
            clear hW2 hb2 hlk rc0 rz0 rc1 rz1 sc0 sc1 vc0 vc1
            have rc0 : W2.cell? ⟨w.heap.size, 0, none⟩ = some (.map none) := BR.cell 0
            have rz0 : W2.frozen? ⟨w.heap.size, 0, none⟩ = false := BR.frozen 0
            have rc1 : W2.cell? ⟨w.heap.size, 1, none⟩ = some (.map none) := BR.cell 1
            have rz1 : W2.frozen? ⟨w.heap.size, 1, none⟩ = false := BR.frozen 1
            have sc0 : W2.cell? ⟨w.heap.size + 1 + 1 + 1, 0, none⟩ = some (.map (some (w.heap.size + 1))) := B6.cell 0
            have sc1 : W2.cell? ⟨w.heap.size + 1 + 1 + 1, 1, none⟩ = some (.map (some (w.heap.size + 1 + 1))) := B6.cell 1
            go_wp2
            obtain ⟨W9, hW9⟩ : ∃ W9, W9 = (W2.setCell ⟨w.heap.size, 0, none⟩ (.map (some (w.heap.size + 1)))).setCell ⟨w.heap.size, 1, none⟩ (.map (some (w.heap.size + 1 + 1))) := ⟨_, rfl⟩
            have B9 : Blk W9 (w.heap.size) 57 #[.map (some (w.heap.size + 1)), .map (some (w.heap.size + 1 + 1))] := hW9 ▸ ((BR.set_ 0 _).set_ 1 _)
            have hbw9 : Below w.heap.size w W9 := hW9 ▸ ((hbw.setCell (p := ⟨w.heap.size, 0, none⟩) (Nat.le_refl _) _).setCell (p := ⟨w.heap.size, 1, none⟩) (Nat.le_refl _) _)
            rw [← hW9]
            clear hW9
            have qc0 : W9.cell? ⟨w.heap.size, 0, none⟩ = some (.map (some (w.heap.size + 1))) := B9.cell 0
            have qc1 : W9.cell? ⟨w.heap.size, 1, none⟩ = some (.map (some (w.heap.size + 1 + 1))) := B9.cell 1
            exact bodyPost_ret (v := .tuple #[.agg #[.map (some (w.heap.size + 1)), .map (some (w.heap.size + 1 + 1))], .int .i64 6]) (by simp [results, Tryz.results22, go_sem, qc0, qc1]) rfl ⟨⟨6, rfl, HE.out.symm, fun h => by cases h⟩, hbw9⟩
          | none =>
            have hlk : (Instr.lookup 55 (.map (some (w.heap.size + 1 + 1))) (.string d.nm) true).run Tryz.prog W1 = .ok (.tuple #[.agg #[.string ⟨#[]⟩, .slice none 0 0], .bool false]) W1 := by
              have h := HMK1.out.1.look Tryz.underlying55 (zeroNest W1) hd1
              rw [hg] at h
              exact h
            have HG := Lib.hid hg
            have HANY := Lib.hid (show (loops.take k).any (fun x => decide (x.nm = d.nm)) = false from any_name (f := NestD.nm) (HMK1.out.2.no _ hg))
            clear hg hW1
            go_upto_region 20 with (fail)
            obtain ⟨W2, hW2⟩ : ∃ W2, W2 = W1.alloc (.cells #[.string ⟨#[]⟩, .slice none 0 0] 97 (0, 0)) := ⟨_, rfl⟩
            have hb2 : Below W1.heap.size W1 W2 := hW2 ▸ (Below.refl _ W1).alloc (Nat.le_refl _) _
            rw [← hW2]
            have hbw := hbw.trans (hb2.mono hbw.size)
            have BR := BR.below hb2 BR.lt
            have B6 := B6.below hb2 B6.lt
            have B8 := B8.below hb2 B8.lt
            have HMK2 := Lib.hid (And.intro (HMK1.out.1.below hb2 HMK1.out.1.lt) (HMK1.out.2.keep (hb2.mono (Nat.le_trans hB (Nat.le_trans hsr hb1.size)))))
            have HCI2 := Lib.hid (HCI1.out.keep (hb2.mono (Nat.le_trans hB (Nat.le_trans hsr hb1.size))))
            have hs2 : wr.heap.size < W2.heap.size := B8.lt
            have hbX := hb1.trans (hb2.mono hb1.size)
            clear hW2 hlk rc0 rz0 rc1 rz1 sc0 sc1 vc0 vc1 HMK1 HCI1
            have rc0 : W2.cell? ⟨w.heap.size, 0, none⟩ = some (.map none) := BR.cell 0
            have rz0 : W2.frozen? ⟨w.heap.size, 0, none⟩ = false := BR.frozen 0
            have rc1 : W2.cell? ⟨w.heap.size, 1, none⟩ = some (.map none) := BR.cell 1
            have rz1 : W2.frozen? ⟨w.heap.size, 1, none⟩ = false := BR.frozen 1
            have sc0 : W2.cell? ⟨w.heap.size + 1 + 1 + 1, 0, none⟩ = some (.map (some (w.heap.size + 1))) := B6.cell 0
            have sc1 : W2.cell? ⟨w.heap.size + 1 + 1 + 1, 1, none⟩ = some (.map (some (w.heap.size + 1 + 1))) := B6.cell 1
            have vc0 : W2.cell? ⟨wr.heap.size, 0, none⟩ = some (.string d.nm) := B8.cell 0
            have vc1 : W2.cell? ⟨wr.heap.size, 1, none⟩ = some (.slice A d.loops.length c) := B8.cell 1
            obtain ⟨nb, hnb⟩ : ∃ b, nestedF (loops.take k) d.loops = b := ⟨_, rfl⟩
            have HNB := Lib.hid hnb
            clear hnb
            go_wp2_with fail
            refine (nested_any d.loops A c (w.heap.size + 1) (w.heap.size + 1 + 1) B kv2 (loops.take k) W2 HDX.out.2.2.1 HDX.out.2.2.2 (HDX.out.1.below (hbX.mono (Nat.le_trans hB hsr))) HDX.out.2.1 (by omega) HMK2.out.1 HMK2.out.2).mono ?_
            rw [HNB.out]
            rintro en W4 ⟨rfl, hbn⟩
            have hbw := hbw.trans (hbn.mono hbw.size)
            have BR := BR.below hbn BR.lt
            have B6 := B6.below hbn B6.lt
            have B8 := B8.below hbn B8.lt
            have HMK2 := Lib.hid (And.intro (HMK2.out.1.below hbn HMK2.out.1.lt) (HMK2.out.2.keep (hbn.mono (by omega))))
            have HCI2 := Lib.hid (HCI2.out.keep (hbn.mono (by omega)))
            have hs2 : wr.heap.size < W4.heap.size := B8.lt
            have hbX := hbX.trans (hbn.mono (by omega))
            clear hbn rc0 rz0 rc1 rz1 sc0 sc1 vc0 vc1
            have rc0 : W4.cell? ⟨w.heap.size, 0, none⟩ = some (.map none) := BR.cell 0
            have rz0 : W4.frozen? ⟨w.heap.size, 0, none⟩ = false := BR.frozen 0
            have rc1 : W4.cell? ⟨w.heap.size, 1, none⟩ = some (.map none) := BR.cell 1
            have rz1 : W4.frozen? ⟨w.heap.size, 1, none⟩ = false := BR.frozen 1
            have sc0 : W4.cell? ⟨w.heap.size + 1 + 1 + 1, 0, none⟩ = some (.map (some (w.heap.size + 1))) := B6.cell 0
            have sc1 : W4.cell? ⟨w.heap.size + 1 + 1 + 1, 1, none⟩ = some (.map (some (w.heap.size + 1 + 1))) := B6.cell 1
            have vc0 : W4.cell? ⟨wr.heap.size, 0, none⟩ = some (.string d.nm) := B8.cell 0
            have vc1 : W4.cell? ⟨wr.heap.size, 1, none⟩ = some (.slice A d.loops.length c) := B8.cell 1
            cases nb
            · have HE := Lib.hid (show worldF cells loops = 7 by
                have hf : nestFault (loops.take k) d = 7 := by unfold nestFault; rw [if_neg (by rw [HBN.out]; simp), if_neg (by rw [HANY.out]; simp), if_pos HNB.out]
                have h := HDD.out
                rw [hf, if_pos (by decide)] at h
                unfold worldF
                rw [if_neg (by rw [HF1.out]; simp), if_pos (by rw [h]; decide), h])
              go_wp2
              obtain ⟨W9, hW9⟩ : ∃ W9, W9 = (W4.setCell ⟨w.heap.size, 0, none⟩ (.map (some (w.heap.size + 1)))).setCell ⟨w.heap.size, 1, none⟩ (.map (some (w.heap.size + 1 + 1))) := ⟨_, rfl⟩
              have B9 : Blk W9 (w.heap.size) 57 #[.map (some (w.heap.size + 1)), .map (some (w.heap.size + 1 + 1))] := hW9 ▸ ((BR.set_ 0 _).set_ 1 _)
              have hbw9 : Below w.heap.size w W9 := hW9 ▸ ((hbw.setCell (p := ⟨w.heap.size, 0, none⟩) (Nat.le_refl _) _).setCell (p := ⟨w.heap.size, 1, none⟩) (Nat.le_refl _) _)
              rw [← hW9]
              clear hW9
              have qc0 : W9.cell? ⟨w.heap.size, 0, none⟩ = some (.map (some (w.heap.size + 1))) := B9.cell 0
              have qc1 : W9.cell? ⟨w.heap.size, 1, none⟩ = some (.map (some (w.heap.size + 1 + 1))) := B9.cell 1
              exact bodyPost_ret (v := .tuple #[.agg #[.map (some (w.heap.size + 1)), .map (some (w.heap.size + 1 + 1))], .int .i64 7]) (by simp [results, Tryz.results22, go_sem, qc0, qc1]) rfl ⟨⟨7, rfl, HE.out.symm, fun h => by cases h⟩, hbw9⟩
            have HZ := Lib.hid (show nestFault (loops.take k) d = 0 by unfold nestFault; rw [if_neg (by rw [HBN.out]; simp), if_neg (by rw [HANY.out]; simp), if_neg (by rw [HNB.out]; simp)])
            go_wp2_with (at_mapUpdate; refine wpList_store_map rfl _ _ _ 55 97 rfl Tryz.underlying55 rfl HMK2.out.1 ?c1 rfl rfl ?c2 ?_)
            case c1 =>
              have h1 := HMK2.out.2.len
              have h2 : (loops.take k).length ≤ loops.length := List.length_take_le' _ _
              rw [h1]
              unfold maxLen
              have := HLT.out
              rw [List.length_take]
              omega
            case c2 => exact hd1
            intro W3 hmp hg3
            have hs3 : W4.heap.size ≤ W3.heap.size := hg3.size
            have hmB : B ≤ w.heap.size + 1 + 1 := by omega
            have hb3 : Below w.heap.size w W3 := hbw.grown hg3 hbw.size (fun g hg => by injection hg with hg; omega)
            have hbB : Below B W4 W3 := ((Below.refl B W4).grown hg3 (by omega) (fun g hg => by injection hg with hg; omega))
            have HMK3 := Lib.hid (show MapIs W3 (w.heap.size + 1 + 1) _ ∧ KvN W3 B _ (loops.take (k + 1)) from ⟨hmp, by rw [HT1.out]; exact (HMK2.out.2.keep hbB).add (HCI2.out.keep hbB) HG.out⟩)
            have HB3 := Lib.hid (show Blk W3 (w.heap.size) 57 #[.map none, .map none] ∧ Blk W3 (w.heap.size + 1 + 1 + 1) 57 #[.map (some (w.heap.size + 1)), .map (some (w.heap.size + 1 + 1))] from ⟨BR.grown hg3 (by simp; try omega), B6.grown hg3 (by simp; try omega)⟩)
            have HO3 := Lib.hid (And.intro ((HO.out.1.below hbX (HO.out.1.lt)).kept hg3 (by simp; try omega)) ((HO.out.2.keep (hbX.mono (Nat.le_trans hB hsr))).keep hbB))
            have HD3 := Lib.hid (show firstF nestFault [] loops = firstF nestFault (loops.take (k + 1)) (loops.drop (k + 1)) by rw [HDD.out, if_neg (by rw [HZ.out]; simp)])
            clear hg3 hbB rc0 rz0 rc1 rz1 sc0 sc1 vc0 vc1
            go_wp2
            go_roundw
            case rel => exact ⟨k + 1, _, HLT.out, by go_num, HD3, HMK3, HO3, HB3, hb3⟩
            case measure =>
              have := HLT.out
              simp [intOf]
              omega
        · have hke : loops.take k = loops := List.take_of_length_le (by omega)
          have HF2 := Lib.hid (show firstF nestFault [] loops = 0 by rw [HD.out, List.drop_eq_nil_of_le (by omega)]; rfl)
          rw [hke] at HMK
          clear hke
          have hx0 : True := trivial
          clear hx0
          go_wp2
          go_loopw [86] (fun i wr => ∃ k : Nat, k ≤ cells.length ∧ i = .int .i64 k ∧ Hid (∀ x ∈ cells.take k, nestedF loops x.loops = true) ∧ Hid (MapIs wr (w.heap.size + 1) kv1 ∧ KvC wr B kv1 cells) ∧ Hid (MapIs wr (w.heap.size + 1 + 1) kv2 ∧ KvN wr B kv2 loops) ∧ Hid (Blk wr (w.heap.size) 57 #[.map none, .map none] ∧ Blk wr (w.heap.size + 1 + 1 + 1) 57 #[.map (some (w.heap.size + 1)), .map (some (w.heap.size + 1 + 1))]) ∧ Below w.heap.size w wr) (fun i _ => cells.length - (intOf i).toNat)
          case atStart => exact ⟨0, Nat.zero_le _, rfl, Lib.hid (by simp), Lib.hid HO.out, Lib.hid HMK.out, HBB, hbr⟩
          case round =>
            clear HMK HO HBB hbr hbr0 hgr hsr
            obtain ⟨k, hk, rfl, HD3, HO, HMK, HBB, hbr⟩ := hrel
            have hsr := hbr.size
            have hbr0 := hbr.mono hB
            have hgr : w.heap.size + 1 + 1 + 1 < wr.heap.size := HBB.out.2.lt
            by_cases hlt : k < cells.length
            · obtain ⟨ad, ci, rfl, hb, hci, hcell⟩ := (CAt.out.keep hbr0).at_ hlt
              obtain ⟨d, hed⟩ : ∃ d, cells[k] = d := ⟨_, rfl⟩
              have HT1 := Lib.hid (show cells.take (k + 1) = cells.take k ++ [d] by rw [List.take_succ_eq_append_getElem hlt, hed])
              have HIN := Lib.hid (show d ∈ cells by rw [← hed]; exact List.getElem_mem hlt)
              rw [hed] at hci
              have HLT := Lib.hid hlt
              obtain ⟨⟨A, c, rfl, hdx, hdc⟩, hd1, hd2, hd3⟩ := hci
              have fc0 : wr.cell? (ad.add (k * 3)) = some (.string d.nm) := hcell 0 _ rfl
              have fc1 : wr.cell? ⟨(ad.add (k * 3)).block, (ad.add (k * 3)).off + 1, none⟩ = some (.int .i64 d.kind) := hcell 1 _ rfl
              have fc2 : wr.cell? ⟨(ad.add (k * 3)).block, (ad.add (k * 3)).off + 2, none⟩ = some (.slice A d.loops.length c) := hcell 2 _ rfl
              have HDX := Lib.hid (And.intro hdx (And.intro hdc (And.intro hd2 hd3)))
              clear hcell hed hdx hdc hd2 hd3
              obtain ⟨nb, hnb⟩ : ∃ b, nestedF loops d.loops = b := ⟨_, rfl⟩
              have HNB := Lib.hid hnb
              clear hnb
              go_upto_region 29 with (fail)
              obtain ⟨W1, hW1⟩ : ∃ W1, W1 = wr.alloc (.cells #[.string d.nm, .int .i64 d.kind, .slice A d.loops.length c] 101 (0, 0)) := ⟨_, rfl⟩
              have hb1 : Below wr.heap.size wr W1 := hW1 ▸ (Below.refl _ wr).alloc (Nat.le_refl _) _
              have B8 : Blk W1 wr.heap.size 101 #[.string d.nm, .int .i64 d.kind, .slice A d.loops.length c] := hW1 ▸ Blk.new wr _ _
              rw [← hW1]
              have hbw := hbr.trans (hb1.mono hsr)
              have BR := HBB.out.1.below hb1 HBB.out.1.lt
              have B6 := HBB.out.2.below hb1 HBB.out.2.lt
              have HO1 := Lib.hid (And.intro (HO.out.1.below hb1 HO.out.1.lt) (HO.out.2.keep (hb1.mono (Nat.le_trans hB hsr))))
              have HMK1 := Lib.hid (And.intro (HMK.out.1.below hb1 HMK.out.1.lt) (HMK.out.2.keep (hb1.mono (Nat.le_trans hB hsr))))
              clear hW1 fc0 fc1 fc2
              have rc0 : W1.cell? ⟨w.heap.size, 0, none⟩ = some (.map none) := BR.cell 0
              have rz0 : W1.frozen? ⟨w.heap.size, 0, none⟩ = false := BR.frozen 0
              have rc1 : W1.cell? ⟨w.heap.size, 1, none⟩ = some (.map none) := BR.cell 1
              have rz1 : W1.frozen? ⟨w.heap.size, 1, none⟩ = false := BR.frozen 1
              have sc0 : W1.cell? ⟨w.heap.size + 1 + 1 + 1, 0, none⟩ = some (.map (some (w.heap.size + 1))) := B6.cell 0
              have sc1 : W1.cell? ⟨w.heap.size + 1 + 1 + 1, 1, none⟩ = some (.map (some (w.heap.size + 1 + 1))) := B6.cell 1
              have vc0 : W1.cell? ⟨wr.heap.size, 0, none⟩ = some (.string d.nm) := B8.cell 0
              have vc1 : W1.cell? ⟨wr.heap.size, 1, none⟩ = some (.int .i64 d.kind) := B8.cell 1
              have vc2 : W1.cell? ⟨wr.heap.size, 2, none⟩ = some (.slice A d.loops.length c) := B8.cell 2
              go_wp2_with fail
              refine (nested_any d.loops A c (w.heap.size + 1) (w.heap.size + 1 + 1) B kv2 loops W1 HDX.out.2.2.1 HDX.out.2.2.2 (HDX.out.1.below (hb1.mono (Nat.le_trans hB hsr))) HDX.out.2.1 (Nat.le_trans hB hbw.size) HMK1.out.1 HMK1.out.2).mono ?_
              rw [HNB.out]
              rintro en W4 ⟨rfl, hbn⟩
              have hbw := hbw.trans (hbn.mono hbw.size)
              have BR := BR.below hbn BR.lt
              have B6 := B6.below hbn B6.lt
              have HO4 := Lib.hid (And.intro (HO1.out.1.below hbn HO1.out.1.lt) (HO1.out.2.keep (hbn.mono (by have := hb1.size; omega))))
              have HMK4 := Lib.hid (And.intro (HMK1.out.1.below hbn HMK1.out.1.lt) (HMK1.out.2.keep (hbn.mono (by have := hb1.size; omega))))
              clear hbn hb1 B8 rc0 rz0 rc1 rz1 sc0 sc1 vc0 vc1 vc2
              have rc0 : W4.cell? ⟨w.heap.size, 0, none⟩ = some (.map none) := BR.cell 0
              have rz0 : W4.frozen? ⟨w.heap.size, 0, none⟩ = false := BR.frozen 0
              have rc1 : W4.cell? ⟨w.heap.size, 1, none⟩ = some (.map none) := BR.cell 1
              have rz1 : W4.frozen? ⟨w.heap.size, 1, none⟩ = false := BR.frozen 1
              have sc0 : W4.cell? ⟨w.heap.size + 1 + 1 + 1, 0, none⟩ = some (.map (some (w.heap.size + 1))) := B6.cell 0
              have sc1 : W4.cell? ⟨w.heap.size + 1 + 1 + 1, 1, none⟩ = some (.map (some (w.heap.size + 1 + 1))) := B6.cell 1
              cases nb
              · have HE := Lib.hid (show worldF cells loops = 9 by
                  unfold worldF
                  rw [if_neg (by rw [HF1.out]; simp), if_neg (by rw [HF2.out]; simp), if_pos (List.any_eq_true.2 ⟨d, HIN.out, by rw [HNB.out]; rfl⟩)])
                go_wp2
                obtain ⟨W9, hW9⟩ : ∃ W9, W9 = (W4.setCell ⟨w.heap.size, 0, none⟩ (.map (some (w.heap.size + 1)))).setCell ⟨w.heap.size, 1, none⟩ (.map (some (w.heap.size + 1 + 1))) := ⟨_, rfl⟩
                have B9 : Blk W9 (w.heap.size) 57 #[.map (some (w.heap.size + 1)), .map (some (w.heap.size + 1 + 1))] := hW9 ▸ ((BR.set_ 0 _).set_ 1 _)
                have hbw9 : Below w.heap.size w W9 := hW9 ▸ ((hbw.setCell (p := ⟨w.heap.size, 0, none⟩) (Nat.le_refl _) _).setCell (p := ⟨w.heap.size, 1, none⟩) (Nat.le_refl _) _)
                rw [← hW9]
                clear hW9
                have qc0 : W9.cell? ⟨w.heap.size, 0, none⟩ = some (.map (some (w.heap.size + 1))) := B9.cell 0
                have qc1 : W9.cell? ⟨w.heap.size, 1, none⟩ = some (.map (some (w.heap.size + 1 + 1))) := B9.cell 1
                exact bodyPost_ret (v := .tuple #[.agg #[.map (some (w.heap.size + 1)), .map (some (w.heap.size + 1 + 1))], .int .i64 9]) (by simp [results, Tryz.results22, go_sem, qc0, qc1]) rfl ⟨⟨9, rfl, HE.out.symm, fun h => by cases h⟩, hbw9⟩
              have HD4 := Lib.hid (show ∀ x ∈ cells.take (k + 1), nestedF loops x.loops = true by
                rw [HT1.out]
                intro x hx
                rcases List.mem_append.1 hx with h | h
                · exact HD3.out x h
                · rw [List.mem_singleton] at h; rw [h]; exact HNB.out)
              have HBB4 := Lib.hid (And.intro BR B6)
              clear BR B6 rc0 rz0 rc1 rz1 sc0 sc1
              go_wp2
              go_roundw
              case rel => exact ⟨k + 1, HLT.out, by go_num, HD4, HO4, HMK4, HBB4, hbw⟩
              case measure =>
                have := HLT.out
                simp [intOf]
                omega
            · have HE := Lib.hid (show worldF cells loops = 0 by
                have h := HD3.out
                rw [List.take_of_length_le (by omega)] at h
                unfold worldF
                rw [if_neg (by rw [HF1.out]; simp), if_neg (by rw [HF2.out]; simp), if_neg]
                intro hc
                obtain ⟨x, hx, hx2⟩ := List.any_eq_true.1 hc
                rw [h x hx] at hx2
                cases hx2)
              have BR := HBB.out.1
              have B6 := HBB.out.2
              have hb1 : BR = BR := rfl
              clear hb1
              have rc0 : wr.cell? ⟨w.heap.size, 0, none⟩ = some (.map none) := BR.cell 0
              have rz0 : wr.frozen? ⟨w.heap.size, 0, none⟩ = false := BR.frozen 0
              have rc1 : wr.cell? ⟨w.heap.size, 1, none⟩ = some (.map none) := BR.cell 1
              have rz1 : wr.frozen? ⟨w.heap.size, 1, none⟩ = false := BR.frozen 1
              have sc0 : wr.cell? ⟨w.heap.size + 1 + 1 + 1, 0, none⟩ = some (.map (some (w.heap.size + 1))) := B6.cell 0
              have sc1 : wr.cell? ⟨w.heap.size + 1 + 1 + 1, 1, none⟩ = some (.map (some (w.heap.size + 1 + 1))) := B6.cell 1
              go_wp2
              obtain ⟨W9, hW9⟩ : ∃ W9, W9 = (wr.setCell ⟨w.heap.size, 0, none⟩ (.map (some (w.heap.size + 1)))).setCell ⟨w.heap.size, 1, none⟩ (.map (some (w.heap.size + 1 + 1))) := ⟨_, rfl⟩
              have B9 : Blk W9 (w.heap.size) 57 #[.map (some (w.heap.size + 1)), .map (some (w.heap.size + 1 + 1))] := hW9 ▸ ((BR.set_ 0 _).set_ 1 _)
              have hbw9 : Below w.heap.size w W9 := hW9 ▸ ((hbr.setCell (p := ⟨w.heap.size, 0, none⟩) (Nat.le_refl _) _).setCell (p := ⟨w.heap.size, 1, none⟩) (Nat.le_refl _) _)
              have hmk9 : MapIs W9 (w.heap.size + 1) kv1 ∧ KvC W9 B kv1 cells := hW9 ▸ ⟨(HO.out.1.setCell (p := ⟨w.heap.size, 0, none⟩) (by show _ ≠ w.heap.size; omega) _).setCell (p := ⟨w.heap.size, 1, none⟩) (by show _ ≠ w.heap.size; omega) _, HO.out.2.keep (((Below.refl B wr).setCell (p := ⟨w.heap.size, 0, none⟩) hB _).setCell (p := ⟨w.heap.size, 1, none⟩) hB _)⟩
              have hmn9 : MapIs W9 (w.heap.size + 1 + 1) kv2 ∧ KvN W9 B kv2 loops := hW9 ▸ ⟨(HMK.out.1.setCell (p := ⟨w.heap.size, 0, none⟩) (by show _ ≠ w.heap.size; omega) _).setCell (p := ⟨w.heap.size, 1, none⟩) (by show _ ≠ w.heap.size; omega) _, HMK.out.2.keep (((Below.refl B wr).setCell (p := ⟨w.heap.size, 0, none⟩) hB _).setCell (p := ⟨w.heap.size, 1, none⟩) hB _)⟩
              rw [← hW9]
              clear hW9
              have qc0 : W9.cell? ⟨w.heap.size, 0, none⟩ = some (.map (some (w.heap.size + 1))) := B9.cell 0
              have qc1 : W9.cell? ⟨w.heap.size, 1, none⟩ = some (.map (some (w.heap.size + 1 + 1))) := B9.cell 1
              exact bodyPost_ret (v := .tuple #[.agg #[.map (some (w.heap.size + 1)), .map (some (w.heap.size + 1 + 1))], .int .i64 0]) (by simp [results, Tryz.results22, go_sem, qc0, qc1]) rfl ⟨⟨0, rfl, HE.out.symm, fun _ => ⟨kv1, kv2, hmk9.1, hmn9.1, hmk9.2, hmn9.2⟩⟩, hbw9⟩
end Go.Proofs.YtpanbeoelbhhgaaGreatDoor
namespace Go.Proofs.YtpanbeoelbhhgaaGreatDoor
open Go.RowKit
attribute [local go_sem ↓] Go.wp_at_zero Go.wp_at_succ
def beginsB (a b : List ByteArray) : Bool := decide (a.length ≤ b.length) && decide (a = b.take a.length)
set_option maxHeartbeats 1000000 in
theorem beginning_any (a b : List ByteArray) (A : Option Addr) (c : Nat) (A' : Option Addr) (c' B : Nat) (w : World) (ha : a.length ≤ maxLen) (hb : b.length ≤ maxLen) (hx : StrsAt w B A a) (hy : StrsAt w B A' b) (hc : b.length ≤ c') (_hB : B ≤ w.heap.size) :
    Calls Tryz.prog 40 #[.slice A a.length c, .slice A' b.length c'] w fun e w' => e = .returned (.bool (beginsB a b)) ∧ Below w.heap.size w w' := by
  unfold beginsB
  by_cases hl : a.length ≤ b.length
  · have hl2 : (a.length : Int) ≤ (b.length : Int) := by omega
    have hlc : a.length ≤ c' := by omega
    have hlen : (b.take a.length).length = a.length := by rw [List.length_take]; omega
    have K := Lib.hid (show Calls Tryz.prog 39 #[.slice A a.length c, .slice A' a.length c'] w fun e w'' => e = .returned (.bool (decide (a = b.take a.length))) ∧ Below w.heap.size w w'' by
      have h := equalStr_any A A' c c' B B a (b.take a.length) w ha (by rw [hlen]; exact ha) hx (hy.take _)
      rw [hlen] at h
      exact h)
    unfold maxLen at ha hb
    rcases hA' : A' with _ | ad
    · have hb0 : b.length = 0 := by
        rcases Nat.eq_zero_or_pos b.length with h | h
        · exact h
        · obtain ⟨ad, e, -⟩ := hy.2 h
          rw [hA'] at e; cases e
      subst hA'
      have ha0 : a.length = 0 := by omega
      have e1 := List.eq_nil_of_length_eq_zero ha0
      have e2 := List.eq_nil_of_length_eq_zero hb0
      subst e1 e2
      clear hl hlen hl2 hlc ha0 hb0
      go_enter Tryz.func40, Tryz.ntmps40
      go_wp2_with fail
      refine K.out.mono ?_
      rintro e w1 ⟨rfl, hb1⟩
      go_wp2_with fail
      go_ret
      exact ⟨ret_bool (by simp), hb1⟩
    · subst hA'
      have HL := Lib.hid hl
      clear hl hlen
      go_enter Tryz.func40, Tryz.ntmps40
      go_wp2_with fail
      refine K.out.mono ?_
      rintro e w1 ⟨rfl, hb1⟩
      go_wp2_with fail
      go_ret
      exact ⟨ret_bool (by rw [decide_eq_true HL.out]; simp), hb1⟩
  · have hl2 : ¬ (a.length : Int) ≤ (b.length : Int) := by omega
    have HL := Lib.hid hl
    clear hl
    go_enter Tryz.func40, Tryz.ntmps40
    go_wp2_with fail
    go_ret
    exact ⟨ret_bool (by rw [decide_eq_false HL.out]; simp), Below.refl _ _⟩
end Go.Proofs.YtpanbeoelbhhgaaGreatDoor
namespace Go.Proofs.YtpanbeoelbhhgaaGreatDoor
open Go.RowKit
attribute [local go_sem ↓] Go.wp_at_zero Go.wp_at_succ
theorem later_h {W w' : World} (h : ∃ p : Later W, w' = p.w) : Below W.heap.size W w' := by
  obtain ⟨p, rfl⟩ := h
  exact p.h
theorem LiesAt.take {α : Type} {P : World → Nat → α → List Value → Prop} {size B : Nat} {w : World} {A : Option Addr} {l : List α} (h : LiesAt P size w B A l) (k : Nat) : LiesAt P size w B A (l.take k) := by
  obtain ⟨h0, cs, hr, hp⟩ := h
  have hk : (l.take k).length ≤ l.length := List.length_take_le' _ _
  refine ⟨Nat.le_trans hk h0, cs.take ((l.take k).length * size), ⟨by rw [List.length_take, hr.1]; exact Nat.min_eq_left (Nat.mul_le_mul_right _ hk), fun hn => ?_⟩, fun i hi => ?_⟩
  · obtain ⟨ad, e, hb, hc⟩ := hr.2 (by omega)
    refine ⟨ad, e, hb, fun j u hu => hc j u ?_⟩
    rw [List.getElem?_take] at hu
    split at hu
    · exact hu
    · cases hu
  · have h1 := hp i (by omega)
    have hle : i * size + size ≤ (l.take k).length * size := by rw [← Nat.succ_mul]; exact Nat.mul_le_mul_right _ hi
    rw [List.drop_take, List.take_take, Nat.min_eq_left (by omega), List.getElem_take]
    exact h1
end Go.Proofs.YtpanbeoelbhhgaaGreatDoor
namespace Go.Proofs.YtpanbeoelbhhgaaGreatDoor
open Go.RowKit
def fitT (ok : Bool) (k : Int) : Int × Int := if ok then (k, 0) else (0, 8)
theorem fits_any (ok : Bool) (k : Int) (w : World) :
    Calls Tryz.prog 74 #[.bool ok, .int .i64 k] w fun e w' => e = .returned (.tuple #[.int .i64 (fitT ok k).1, .int .i64 (fitT ok k).2]) ∧ w = w' := by
  cases ok
  all_goals
    go_enter Tryz.func74, Tryz.ntmps74
    go_wp2
    go_ret2
    exact ⟨rfl, rfl⟩
theorem pred_any (b : Nat) (k : Int) (w : World) (hc : w.cell? ⟨b, 0, none⟩ = some (.int .i64 k)) (x : Int) :
    Calls Tryz.prog 116 #[.int .i64 x, .pointer (some ⟨b, 0, none⟩)] w fun e w' => e = .returned (.bool (x != k)) ∧ w = w' := by
  go_enter Tryz.func116, Tryz.ntmps116
  go_wp2
  go_ret
  exact ⟨rfl, rfl⟩
theorem pred_at (b : Nat) (k : Int) (w : World) (hc : w.cell? ⟨b, 0, none⟩ = some (.int .i64 k)) : PredAt Tryz.prog 116 #[.pointer (some ⟨b, 0, none⟩)] (fun x : Int => .int .i64 x) (fun x => x != k) w := by
  intro W x hb
  exact (pred_any b k W (Below.cell_of hb hc) x).mono fun _ _ ⟨he, hw⟩ => ⟨he, 0, hw ▸ rfl⟩
theorem ints_cells {w : World} {b o : Nat} {l : List Int} (h : ∀ j u, (numV .i64 l)[j]? = some u → w.cell? ⟨b, o + j, none⟩ = some u) : ∀ j, j < l.length → w.cell? ⟨b, o + j, none⟩ = some (.int .i64 l[j]!) := by
  intro j hj
  refine h j _ ?_
  unfold numV
  rw [List.getElem?_map, List.getElem?_eq_getElem hj]
  simp [hj]
def allB (ks : List Int) (k : Int) : Bool := ks.all (fun x => decide (x = k))
theorem allB_eq (ks : List Int) (k : Int) : allB ks k = !(ks.any (fun x => x != k)) := by
  unfold allB
  rw [Bool.eq_iff_iff]
  simp
theorem cont_any (ks : List Int) (A : Option Addr) (c B : Nat) (b : Nat) (k : Int) (w : World) (hk : ks.length ≤ maxLen) (hx : Reads w B 1 A ks.length (numV .i64 ks)) (hc : w.cell? ⟨b, 0, none⟩ = some (.int .i64 k)) :
    Calls Tryz.prog 115 #[.slice A ks.length c, .func (.func 116) #[] #[.pointer (some ⟨b, 0, none⟩)]] w fun e w' => e = .returned (.bool (!allB ks k)) ∧ Below w.heap.size w w' := by
  unfold maxLen at hk
  rw [allB_eq, Bool.not_not]
  rcases Nat.eq_zero_or_pos ks.length with h0 | h0
  · have e1 := List.eq_nil_of_length_eq_zero h0
    subst e1
    exact (Tryz.slices_ContainsFunc_empty (α := Int) A c _ w).mono fun _ _ ⟨he, hw⟩ => ⟨he, hw ▸ Below.refl _ _⟩
  · obtain ⟨b1, o1, rfl, -, h1⟩ := hx.plain h0
    refine (Tryz.slices_ContainsFunc (α := Int) (fun x => .int .i64 x) (fun x => x != k) 116 _ (enters_of Tryz.func116 (by kernel_rfl) rfl) b1 o1 ks.length c ks w (pred_at b k w hc) (Nat.le_refl _) (by omega) (ints_cells h1)).mono fun _ _ ⟨he, q, hw⟩ => ⟨by rw [he, List.take_length], hw ▸ (Below.refl _ _).drewN q⟩
set_option maxHeartbeats 1000000 in
theorem allOf_any (ks : List Int) (A : Option Addr) (c B : Nat) (k : Int) (w : World) (hk : ks.length ≤ maxLen) (hx : Reads w B 1 A ks.length (numV .i64 ks)) (hB : B ≤ w.heap.size) :
    Calls Tryz.prog 75 #[.slice A ks.length c, .int .i64 k] w fun e w' => e = .returned (.bool (allB ks k)) ∧ Below w.heap.size w w' := by
  have HX := Lib.hid (And.intro hx hB)
  clear hx hB
  go_enter Tryz.func75, Tryz.ntmps75
  go_wp2_with fail
  obtain ⟨W, hW⟩ : ∃ W, W = (w.alloc (.cells #[.int .i64 k] 3 (0, 0))) := ⟨_, rfl⟩
  have hbw : Below w.heap.size w W := by rw [hW]; exact ((Below.refl _ w).alloc (Nat.le_refl _) _)
  have B0 : Blk W (w.heap.size) 3 #[.int .i64 k] := by
    rw [hW]
    have := Blk.new w 3 #[.int .i64 k]
    exact this
  have hsz : W.heap.size = w.heap.size + 1 := by rw [hW]; simp
  rw [← hW]
  clear hW hsz
  refine (cont_any ks A c B w.heap.size k W hk (HX.out.1.below (hbw.mono HX.out.2)) (B0.cell 0)).mono ?_
  rintro e w1 ⟨rfl, hb1⟩
  have hbw := hbw.trans (hb1.mono hbw.size)
  go_wp2
  go_ret
  exact ⟨ret_bool (by simp), hbw⟩
def overT (op k : Int) : Int × Int := if op = 1 then fitT (decide (k = 2)) 2 else if op = 2 then fitT (decide (k = 7)) 2 else if op = 3 ∨ op = 4 then fitT (decide (k = 7)) 7 else fitT (decide (k = 2) || decide (k = 6)) k
set_option maxHeartbeats 1000000 in
theorem overType_any (op k : Int) (w : World) (h1 : 1 ≤ op) (h6 : op ≤ 6) :
    Calls Tryz.prog 43 #[.int .i64 op, .int .i64 k] w fun e w' => e = .returned (.tuple #[.int .i64 (overT op k).1, .int .i64 (overT op k).2]) ∧ w = w' := by
  obtain rfl | rfl | rfl | rfl | rfl | rfl : op = 1 ∨ op = 2 ∨ op = 3 ∨ op = 4 ∨ op = 5 ∨ op = 6 := by omega
  all_goals
    go_enter Tryz.func43, Tryz.ntmps43
    go_wp2_with (go_at_call 74; refine (fits_any _ _ _).mono ?_; rintro e w' ⟨rfl, rfl⟩)
    all_goals
      go_ret2
      exact ⟨ret_val (by simp_all [overT, fitT]), rfl⟩
end Go.Proofs.YtpanbeoelbhhgaaGreatDoor
namespace Go.Proofs.YtpanbeoelbhhgaaGreatDoor
open Go.RowKit
attribute [local go_sem ↓] Go.wp_at_zero Go.wp_at_succ
theorem fits_later (ok : Bool) (k : Int) (W : World) : ∀ w' : World, Below W.heap.size W w' → Calls Tryz.prog 74 #[.bool ok, .int .i64 k] w' fun e w'' => e = .returned (.tuple #[.int .i64 (fitT ok k).1, .int .i64 (fitT ok k).2]) ∧ Below w'.heap.size w' w'' :=
  fun w' _ => (fits_any ok k w').mono fun _ _ ⟨he, hw⟩ => ⟨he, hw ▸ Below.refl _ _⟩
def kAt (ks : List Int) (i : Nat) : Int := ks.getD i 0
/-- the kind of an operation's result, and the fault -/
def opT (op : Int) (ks : List Int) : Int × Int :=
  if op = 1 ∨ op = 2 ∨ op = 3 then fitT (allB ks 7) 7 else
  if op = 4 ∨ op = 5 then fitT (kAt ks 0 == kAt ks 1) 7 else
  if op = 6 ∨ op = 7 ∨ op = 8 ∨ op = 9 then fitT (allB ks 2 || allB ks 6) 7 else
  if op = 10 then fitT (kAt ks 0 == 4 && kAt ks 1 == 5) 7 else if op = 11 then fitT (kAt ks 0 == 5 && kAt ks 1 == 4) 7 else
  if op = 12 ∨ op = 13 then (7, 0) else if op = 14 then (2, 0) else
  if op = 24 ∨ op = 25 then fitT (allB ks 2 || allB ks 6) (kAt ks 0) else
  if op = 26 then fitT (kAt ks 0 == 7 && kAt ks 1 == kAt ks 2) (kAt ks 1) else if op = 27 then fitT (kAt ks 0 == kAt ks 1) (kAt ks 0) else
  if op = 28 then fitT (kAt ks 0 == 5 || kAt ks 0 == 3) 2 else if op = 29 then fitT (kAt ks 0 == 4) 2 else
  if op = 30 ∨ op = 31 then fitT (allB ks 3) 3 else if op = 32 ∨ op = 33 then fitT (allB ks 3) 7 else
  if op = 34 ∨ op = 35 ∨ op = 36 ∨ op = 37 ∨ op = 38 then fitT (allB ks 6) 2 else
  if op = 39 then fitT (kAt ks 0 == 6 && kAt ks 1 == 2) 6 else fitT (allB ks 2) 2
end Go.Proofs.YtpanbeoelbhhgaaGreatDoor
