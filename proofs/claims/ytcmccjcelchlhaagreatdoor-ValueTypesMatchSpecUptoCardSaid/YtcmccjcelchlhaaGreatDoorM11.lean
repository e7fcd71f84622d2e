/- The reference's kind, for answers. · The reference's kind, for constants and rows. · The reference's overKind, and kind whole. · typed, whole. -/
import Derived.Test.YtcmccjcelchlhaaGreatDoorM10
namespace Go.Proofs.YtcmccjcelchlhaaGreatDoor
open Go.RowKit
attribute [local go_sem ↓] Go.wp_at_zero Go.wp_at_succ

def firstK (l : List CellD) (nm : ByteArray) (at_ : List ByteArray) : Int × Int := match l with
  | [] => (0, 5)
  | c :: r => if c.nm = nm ∧ beginsB c.loops at_ = true then (c.kind, 0) else firstK r nm at_
theorem firstK_eq (nm : ByteArray) (at_ : List ByteArray) : ∀ l : List CellD, cellK l nm at_ = firstK l nm at_
  | [] => rfl
  | c :: r => by
    rw [firstK, ← firstK_eq nm at_ r]
    unfold cellK
    rw [List.find?_cons]
    by_cases h1 : c.nm = nm <;> cases h2 : beginsB c.loops at_ <;> simp [h1, h2]
theorem firstK_step (nm : ByteArray) (at_ : List ByteArray) (l : List CellD) (k : Nat) (h : k < l.length) : firstK (l.drop k) nm at_ = if l[k].nm = nm ∧ beginsB l[k].loops at_ = true then (l[k].kind, 0) else firstK (l.drop (k + 1)) nm at_ := by
  rw [List.drop_eq_getElem_cons h, firstK]
set_option maxHeartbeats 2000000 in
set_option maxRecDepth 100000 in
theorem rkind_2 (e : Ex) (cells : List CellD) (loops : List NestD) (hk : e.k = 2) (AC AN : Option Addr) (cc cn B : Nat) (at_ : List ByteArray) (A : Option Addr) (c : Nat) (cs : List Value) (w : World) (hP : PartOk e) (hx : ExAt w B e cs) (hC : CellsAt w B AC cells) (hN : NestsAt w B AN loops) (ha : at_.length ≤ maxLen) (hat : StrsAt w B A at_) (hc : at_.length ≤ c) (hB : B ≤ w.heap.size) :
    Calls Tryz.prog 21 #[.agg #[.slice AC cells.length cc, .slice AN loops.length cn], .agg cs.toArray, .slice A at_.length c] w fun en w' => en = .returned (.tuple #[.int .i64 (e.kind cells loops at_).1, .int .i64 (e.kind cells loops at_).2]) ∧ Below w.heap.size w w' := by
  obtain ⟨hn, hs, hl, ha8, hx, hr, hi⟩ := hx
  rename_i A1 c1 A2 c2 cs
  have HK := Lib.hid (show e.kind cells loops at_ = firstK cells e.nm at_ by rw [kind_eq, if_neg (by omega), if_pos hk, firstK_eq])
  have hk1 : (e.k == 1) = false := by rw [hk]; rfl
  have hk2 : (e.k == 2) = true := by rw [hk]; rfl
  have hk3 : (e.k == 3) = false := by rw [hk]; rfl
  have hk5 : (e.k == 5) = false := by rw [hk]; rfl
  have HAT := Lib.hid (And.intro ha (And.intro hat (And.intro hc hB)))
  have CAt := Lib.hid hC
  have hcl := hC.1
  unfold maxLen at hcl
  have h0 : e.ar.length = 0 := by rw [hP.a0 (by omega)]; rfl
  clear hx hr hi hC hN hat hB hk hP
  show Calls Tryz.prog 21 #[.agg #[.slice AC cells.length cc, .slice AN loops.length cn], .agg #[.int .i64 e.k, .int .i64 e.op, .string e.nm, .int .i64 e.v.k, .int .i64 e.v.n, .string e.v.s, .slice A1 e.v.l.length c1, .slice A2 e.ar.length c2], .slice A at_.length c] w _
  rw [h0]
  go_enter Tryz.func21, Tryz.ntmps21
  go_upto_region 1 with (fail)
  obtain ⟨W, hW⟩ : ∃ W, W = ((w.alloc (.cells #[.slice AC cells.length cc, .slice AN loops.length cn] 55 (0, 0))).alloc (.cells #[.int .i64 e.k, .int .i64 e.op, .string e.nm, .int .i64 e.v.k, .int .i64 e.v.n, .string e.v.s, .slice A1 e.v.l.length c1, .slice A2 0 c2] 27 (0, 0))) := ⟨_, rfl⟩
  have hbw : Below w.heap.size w W := by rw [hW]; exact (((Below.refl _ w).alloc (Nat.le_refl _) _).alloc (by simp) _)
  have B0 : Blk W (w.heap.size) 55 #[.slice AC cells.length cc, .slice AN loops.length cn] := by
    rw [hW]
    have := Blk.new w 55 #[.slice AC cells.length cc, .slice AN loops.length cn]
    have := this.alloc (.cells #[.int .i64 e.k, .int .i64 e.op, .string e.nm, .int .i64 e.v.k, .int .i64 e.v.n, .string e.v.s, .slice A1 e.v.l.length c1, .slice A2 0 c2] 27 (0, 0))
    exact this
  have B1 : Blk W (w.heap.size + 1) 27 #[.int .i64 e.k, .int .i64 e.op, .string e.nm, .int .i64 e.v.k, .int .i64 e.v.n, .string e.v.s, .slice A1 e.v.l.length c1, .slice A2 0 c2] := by
    rw [hW]
    have := Blk.new (w.alloc (.cells #[.slice AC cells.length cc, .slice AN loops.length cn] 55 (0, 0))) 27 #[.int .i64 e.k, .int .i64 e.op, .string e.nm, .int .i64 e.v.k, .int .i64 e.v.n, .string e.v.s, .slice A1 e.v.l.length c1, .slice A2 0 c2]
    rwa [World.size_alloc] at this
  have hsz : W.heap.size = w.heap.size + 2 := by rw [hW]; simp
  rw [← hW]
  clear hW hsz h0
  have tc0 : W.cell? ⟨w.heap.size, 0, none⟩ = some (.slice AC cells.length cc) := B0.cell 0
  have tc1 : W.cell? ⟨w.heap.size, 1, none⟩ = some (.slice AN loops.length cn) := B0.cell 1
  have ec0 : W.cell? ⟨w.heap.size + 1, 0, none⟩ = some (.int .i64 e.k) := B1.cell 0
  have ec1 : W.cell? ⟨w.heap.size + 1, 1, none⟩ = some (.int .i64 e.op) := B1.cell 1
  have ec2 : W.cell? ⟨w.heap.size + 1, 2, none⟩ = some (.string e.nm) := B1.cell 2
  have ec3 : W.cell? ⟨w.heap.size + 1, 3, none⟩ = some (.int .i64 e.v.k) := B1.cell 3
  have ec4 : W.cell? ⟨w.heap.size + 1, 4, none⟩ = some (.int .i64 e.v.n) := B1.cell 4
  have ec5 : W.cell? ⟨w.heap.size + 1, 5, none⟩ = some (.string e.v.s) := B1.cell 5
  have ec6 : W.cell? ⟨w.heap.size + 1, 6, none⟩ = some (.slice A1 e.v.l.length c1) := B1.cell 6
  have ec7 : W.cell? ⟨w.heap.size + 1, 7, none⟩ = some (.slice A2 0 c2) := B1.cell 7
  go_wp2_with fail
  go_loop [29] (fun i => i = .int .i64 0) (fun _ => 0)
  case atStart => exact rfl
  case round =>
    subst hrel
    go_wp2_with fail
    have hbr : Below W.heap.size W W := Below.refl _ _
    have HB0 := Lib.hid B0
    have HB1 := Lib.hid B1
    clear B0 B1 tc0 tc1 ec0 ec1 ec2 ec3 ec4 ec5 ec6 ec7
    go_loopw [60] (fun i wr => ∃ k : Nat, k ≤ cells.length ∧ i = .int .i64 k ∧ Hid (e.kind cells loops at_ = firstK (cells.drop k) e.nm at_) ∧ Below W.heap.size W wr) (fun i _ => cells.length - (intOf i).toNat)
    case atStart => exact ⟨0, Nat.zero_le _, rfl, Lib.hid HK.out, hbr⟩
    case round =>
      obtain ⟨k, hk, rfl, HD, hbr⟩ := hrel
      have hsr := hbr.size
      have hwr : Below w.heap.size w wr := hbw.trans (hbr.mono hbw.size)
      have hBr : Below B w wr := hwr.mono HAT.out.2.2.2
      have C1 := HB1.out.below hbr HB1.out.lt
      by_cases hlt : k < cells.length
      · obtain ⟨ad, ci, rfl, hb, hci, hcell⟩ := (CAt.out.keep hBr).at_ hlt
        obtain ⟨d, hed⟩ : ∃ d, cells[k] = d := ⟨_, rfl⟩
        have HDD := Lib.hid (show e.kind cells loops at_ = if d.nm = e.nm ∧ beginsB d.loops at_ = true then (d.kind, 0) else firstK (cells.drop (k + 1)) e.nm at_ by
          rw [HD.out, firstK_step _ _ _ _ hlt, hed])
        rw [hed] at hci
        have HLT := Lib.hid hlt
        obtain ⟨⟨A3, c3, rfl, hds, hdc⟩, hd1, hd2, hd3⟩ := hci
        have HDX := Lib.hid (And.intro hds hd2)
        have fc0 : wr.cell? (ad.add (k * 3)) = some (.string d.nm) := hcell 0 _ rfl
        have fc1 : wr.cell? ⟨(ad.add (k * 3)).block, (ad.add (k * 3)).off + 1, none⟩ = some (.int .i64 d.kind) := hcell 1 _ rfl
        have fc2 : wr.cell? ⟨(ad.add (k * 3)).block, (ad.add (k * 3)).off + 2, none⟩ = some (.slice A3 d.loops.length c3) := hcell 2 _ rfl
        clear hcell hed hds hdc hd1 hd2 hd3
        go_upto_region 19 with (fail)
        obtain ⟨W3, hW3⟩ : ∃ W3, W3 = wr.alloc (.cells #[.string d.nm, .int .i64 d.kind, .slice A3 d.loops.length c3] 72 (0, 0)) := ⟨_, rfl⟩
        have hb3 : Below wr.heap.size wr W3 := hW3 ▸ (Below.refl _ wr).alloc (Nat.le_refl _) _
        have B3 : Blk W3 wr.heap.size 72 #[.string d.nm, .int .i64 d.kind, .slice A3 d.loops.length c3] := hW3 ▸ Blk.new wr _ _
        rw [← hW3]
        have D1 := C1.below hb3 C1.lt
        clear hW3 fc0 fc1 fc2 C1
        have hr3 : Below W.heap.size W W3 := hbr.trans (hb3.mono hsr)
        have hwr3 := hwr.trans (hb3.mono hwr.size)
        have gc0 : W3.cell? ⟨wr.heap.size, 0, none⟩ = some (.string d.nm) := B3.cell 0
        have gc1 : W3.cell? ⟨wr.heap.size, 1, none⟩ = some (.int .i64 d.kind) := B3.cell 1
        have gc2 : W3.cell? ⟨wr.heap.size, 2, none⟩ = some (.slice A3 d.loops.length c3) := B3.cell 2
        have ec2 : W3.cell? ⟨w.heap.size + 1, 2, none⟩ = some (.string e.nm) := D1.cell 2
        by_cases hs : d.nm = e.nm
        · have b0 : (d.nm.toList == e.nm.toList) = true := strEq_true hs
          obtain ⟨q, hq⟩ : ∃ q, beginsB d.loops at_ = q := ⟨_, rfl⟩
          have HQ := Lib.hid (And.intro hs hq)
          have HBG := Lib.hid (show Calls Tryz.prog 47 #[.slice A3 d.loops.length c3, .slice A at_.length c] W3 fun e w'' => e = .returned (.bool q) ∧ Below W3.heap.size W3 w'' by
            have h := begins_any d.loops at_ A3 c3 A c B W3 HDX.out.2 HAT.out.1 (HDX.out.1.below (hb3.mono (Nat.le_trans HAT.out.2.2.2 hwr.size))) (HAT.out.2.1.below (hwr3.mono HAT.out.2.2.2)) HAT.out.2.2.1 (Nat.le_trans HAT.out.2.2.2 hwr3.size)
            rw [hq] at h
            exact h)
          clear hs hq
          go_wp2_with fail
          refine HBG.out.mono ?_
          rintro en w4 ⟨rfl, hb4⟩
          have hr4 := hr3.trans (hb4.mono hr3.size)
          have hwr4 := hwr3.trans (hb4.mono hwr3.size)
          have B4 := B3.below hb4 B3.lt
          clear B3 D1 gc0 gc1 gc2 ec2
          have gc1 : w4.cell? ⟨wr.heap.size, 1, none⟩ = some (.int .i64 d.kind) := B4.cell 1
          clear B4
          cases q
          · have HF := Lib.hid (HDD.out.trans (if_neg (fun h => by rw [HQ.out.2] at h; exact absurd h.2 (by decide))))
            go_wp2_with fail
            go_roundw
            case rel => exact ⟨k + 1, HLT.out, by go_num, HF, hr4⟩
            case measure =>
              have := HLT.out
              simp [intOf]
              omega
          · have HF := Lib.hid (HDD.out.trans (if_pos HQ.out))
            go_wp2_with fail
            go_ret2
            exact ⟨by rw [HF.out]; try rfl, hwr4⟩
        · have HF := Lib.hid (HDD.out.trans (if_neg (fun h => hs h.1)))
          have b0 : (d.nm.toList == e.nm.toList) = false := strEq_false hs
          clear hs B3 D1
          go_wp2_with fail
          go_roundw
          case rel => exact ⟨k + 1, HLT.out, by go_num, HF, hr3⟩
          case measure =>
            have := HLT.out
            simp [intOf]
            omega
      · have HF := Lib.hid (show e.kind cells loops at_ = (0, 5) by rw [HD.out, List.drop_eq_nil_of_le (by omega)]; rfl)
        clear C1
        go_wp2_with fail
        go_ret2
        exact ⟨by rw [HF.out]; try rfl, hwr⟩
end Go.Proofs.YtcmccjcelchlhaaGreatDoor
namespace Go.Proofs.YtcmccjcelchlhaaGreatDoor
open Go.RowKit
attribute [local go_sem ↓] Go.wp_at_zero Go.wp_at_succ

set_option maxHeartbeats 2000000 in
set_option maxRecDepth 100000 in
theorem rkind_1 (e : Ex) (cells : List CellD) (loops : List NestD) (hk : e.k = 1) (AC AN : Option Addr) (cc cn B : Nat) (at_ : List ByteArray) (A : Option Addr) (c : Nat) (cs : List Value) (w : World) (hP : PartOk e) (hx : ExAt w B e cs) (hC : CellsAt w B AC cells) (hN : NestsAt w B AN loops) (ha : at_.length ≤ maxLen) (hat : StrsAt w B A at_) (hc : at_.length ≤ c) (hB : B ≤ w.heap.size) :
    Calls Tryz.prog 21 #[.agg #[.slice AC cells.length cc, .slice AN loops.length cn], .agg cs.toArray, .slice A at_.length c] w fun en w' => en = .returned (.tuple #[.int .i64 (e.kind cells loops at_).1, .int .i64 (e.kind cells loops at_).2]) ∧ Below w.heap.size w w' := by
  obtain ⟨hn, hs, hl, ha8, hx, hr, hi⟩ := hx
  rename_i A1 c1 A2 c2 cs
  have HK := Lib.hid (show e.kind cells loops at_ = (e.v.k, 0) by rw [kind_eq, if_pos hk])
  have hk1 : (e.k == 1) = true := by rw [hk]; rfl
  have hk2 : (e.k == 2) = false := by rw [hk]; rfl
  have hk3 : (e.k == 3) = false := by rw [hk]; rfl
  have hk5 : (e.k == 5) = false := by rw [hk]; rfl
  have h0 : e.ar.length = 0 := by rw [hP.a0 (by omega)]; rfl
  clear hx hr hi hC hN hat hB hk hP
  show Calls Tryz.prog 21 #[.agg #[.slice AC cells.length cc, .slice AN loops.length cn], .agg #[.int .i64 e.k, .int .i64 e.op, .string e.nm, .int .i64 e.v.k, .int .i64 e.v.n, .string e.v.s, .slice A1 e.v.l.length c1, .slice A2 e.ar.length c2], .slice A at_.length c] w _
  rw [h0]
  go_enter Tryz.func21, Tryz.ntmps21
  go_upto_region 1 with (fail)
  obtain ⟨W, hW⟩ : ∃ W, W = ((w.alloc (.cells #[.slice AC cells.length cc, .slice AN loops.length cn] 55 (0, 0))).alloc (.cells #[.int .i64 e.k, .int .i64 e.op, .string e.nm, .int .i64 e.v.k, .int .i64 e.v.n, .string e.v.s, .slice A1 e.v.l.length c1, .slice A2 0 c2] 27 (0, 0))) := ⟨_, rfl⟩
  have hbw : Below w.heap.size w W := by rw [hW]; exact (((Below.refl _ w).alloc (Nat.le_refl _) _).alloc (by simp) _)
  have B0 : Blk W (w.heap.size) 55 #[.slice AC cells.length cc, .slice AN loops.length cn] := by
    rw [hW]
    have := Blk.new w 55 #[.slice AC cells.length cc, .slice AN loops.length cn]
    have := this.alloc (.cells #[.int .i64 e.k, .int .i64 e.op, .string e.nm, .int .i64 e.v.k, .int .i64 e.v.n, .string e.v.s, .slice A1 e.v.l.length c1, .slice A2 0 c2] 27 (0, 0))
    exact this
  have B1 : Blk W (w.heap.size + 1) 27 #[.int .i64 e.k, .int .i64 e.op, .string e.nm, .int .i64 e.v.k, .int .i64 e.v.n, .string e.v.s, .slice A1 e.v.l.length c1, .slice A2 0 c2] := by
    rw [hW]
    have := Blk.new (w.alloc (.cells #[.slice AC cells.length cc, .slice AN loops.length cn] 55 (0, 0))) 27 #[.int .i64 e.k, .int .i64 e.op, .string e.nm, .int .i64 e.v.k, .int .i64 e.v.n, .string e.v.s, .slice A1 e.v.l.length c1, .slice A2 0 c2]
    rwa [World.size_alloc] at this
  have hsz : W.heap.size = w.heap.size + 2 := by rw [hW]; simp
  rw [← hW]
  clear hW hsz h0
  have tc0 : W.cell? ⟨w.heap.size, 0, none⟩ = some (.slice AC cells.length cc) := B0.cell 0
  have tc1 : W.cell? ⟨w.heap.size, 1, none⟩ = some (.slice AN loops.length cn) := B0.cell 1
  have ec0 : W.cell? ⟨w.heap.size + 1, 0, none⟩ = some (.int .i64 e.k) := B1.cell 0
  have ec1 : W.cell? ⟨w.heap.size + 1, 1, none⟩ = some (.int .i64 e.op) := B1.cell 1
  have ec2 : W.cell? ⟨w.heap.size + 1, 2, none⟩ = some (.string e.nm) := B1.cell 2
  have ec3 : W.cell? ⟨w.heap.size + 1, 3, none⟩ = some (.int .i64 e.v.k) := B1.cell 3
  have ec4 : W.cell? ⟨w.heap.size + 1, 4, none⟩ = some (.int .i64 e.v.n) := B1.cell 4
  have ec5 : W.cell? ⟨w.heap.size + 1, 5, none⟩ = some (.string e.v.s) := B1.cell 5
  have ec6 : W.cell? ⟨w.heap.size + 1, 6, none⟩ = some (.slice A1 e.v.l.length c1) := B1.cell 6
  have ec7 : W.cell? ⟨w.heap.size + 1, 7, none⟩ = some (.slice A2 0 c2) := B1.cell 7
  clear B0 B1
  go_wp2_with fail
  go_loop [29] (fun i => i = .int .i64 0) (fun _ => 0)
  case atStart => exact rfl
  case round =>
    subst hrel
    go_wp2_with fail
    go_ret2
    exact ⟨by rw [HK.out]; rfl, hbw⟩
set_option maxHeartbeats 2000000 in
set_option maxRecDepth 100000 in
theorem rkind_3 (e : Ex) (cells : List CellD) (loops : List NestD) (hk : e.k = 3) (AC AN : Option Addr) (cc cn B : Nat) (at_ : List ByteArray) (A : Option Addr) (c : Nat) (cs : List Value) (w : World) (hP : PartOk e) (hx : ExAt w B e cs) (hC : CellsAt w B AC cells) (hN : NestsAt w B AN loops) (ha : at_.length ≤ maxLen) (hat : StrsAt w B A at_) (hc : at_.length ≤ c) (hB : B ≤ w.heap.size) :
    Calls Tryz.prog 21 #[.agg #[.slice AC cells.length cc, .slice AN loops.length cn], .agg cs.toArray, .slice A at_.length c] w fun en w' => en = .returned (.tuple #[.int .i64 (e.kind cells loops at_).1, .int .i64 (e.kind cells loops at_).2]) ∧ Below w.heap.size w w' := by
  obtain ⟨hn, hs, hl, ha8, hx, hr, hi⟩ := hx
  rename_i A1 c1 A2 c2 cs
  have HK := Lib.hid (show e.kind cells loops at_ = if Lib.containsS at_ e.nm then (2, 0) else (0, 5) by rw [kind_eq, if_neg (by omega), if_neg (by omega), if_pos hk])
  have hk1 : (e.k == 1) = false := by rw [hk]; rfl
  have hk2 : (e.k == 2) = false := by rw [hk]; rfl
  have hk3 : (e.k == 3) = true := by rw [hk]; rfl
  have hk5 : (e.k == 5) = false := by rw [hk]; rfl
  obtain ⟨q, hq⟩ : ∃ q, Lib.containsS at_ e.nm = q := ⟨_, rfl⟩
  have HQ := Lib.hid hq
  have HC := Lib.hid (fun w' (hb : Below w.heap.size w w') => containsStr_any A c B at_ e.nm w' ha (hat.below (hb.mono hB)))
  have h0 : e.ar.length = 0 := by rw [hP.a0 (by omega)]; rfl
  clear hx hr hi hC hN hat hB hq hk hP
  show Calls Tryz.prog 21 #[.agg #[.slice AC cells.length cc, .slice AN loops.length cn], .agg #[.int .i64 e.k, .int .i64 e.op, .string e.nm, .int .i64 e.v.k, .int .i64 e.v.n, .string e.v.s, .slice A1 e.v.l.length c1, .slice A2 e.ar.length c2], .slice A at_.length c] w _
  rw [h0]
  go_enter Tryz.func21, Tryz.ntmps21
  go_upto_region 1 with (fail)
  obtain ⟨W, hW⟩ : ∃ W, W = ((w.alloc (.cells #[.slice AC cells.length cc, .slice AN loops.length cn] 55 (0, 0))).alloc (.cells #[.int .i64 e.k, .int .i64 e.op, .string e.nm, .int .i64 e.v.k, .int .i64 e.v.n, .string e.v.s, .slice A1 e.v.l.length c1, .slice A2 0 c2] 27 (0, 0))) := ⟨_, rfl⟩
  have hbw : Below w.heap.size w W := by rw [hW]; exact (((Below.refl _ w).alloc (Nat.le_refl _) _).alloc (by simp) _)
  have B0 : Blk W (w.heap.size) 55 #[.slice AC cells.length cc, .slice AN loops.length cn] := by
    rw [hW]
    have := Blk.new w 55 #[.slice AC cells.length cc, .slice AN loops.length cn]
    have := this.alloc (.cells #[.int .i64 e.k, .int .i64 e.op, .string e.nm, .int .i64 e.v.k, .int .i64 e.v.n, .string e.v.s, .slice A1 e.v.l.length c1, .slice A2 0 c2] 27 (0, 0))
    exact this
  have B1 : Blk W (w.heap.size + 1) 27 #[.int .i64 e.k, .int .i64 e.op, .string e.nm, .int .i64 e.v.k, .int .i64 e.v.n, .string e.v.s, .slice A1 e.v.l.length c1, .slice A2 0 c2] := by
    rw [hW]
    have := Blk.new (w.alloc (.cells #[.slice AC cells.length cc, .slice AN loops.length cn] 55 (0, 0))) 27 #[.int .i64 e.k, .int .i64 e.op, .string e.nm, .int .i64 e.v.k, .int .i64 e.v.n, .string e.v.s, .slice A1 e.v.l.length c1, .slice A2 0 c2]
    rwa [World.size_alloc] at this
  have hsz : W.heap.size = w.heap.size + 2 := by rw [hW]; simp
  rw [← hW]
  clear hW hsz h0
  have tc0 : W.cell? ⟨w.heap.size, 0, none⟩ = some (.slice AC cells.length cc) := B0.cell 0
  have tc1 : W.cell? ⟨w.heap.size, 1, none⟩ = some (.slice AN loops.length cn) := B0.cell 1
  have ec0 : W.cell? ⟨w.heap.size + 1, 0, none⟩ = some (.int .i64 e.k) := B1.cell 0
  have ec1 : W.cell? ⟨w.heap.size + 1, 1, none⟩ = some (.int .i64 e.op) := B1.cell 1
  have ec2 : W.cell? ⟨w.heap.size + 1, 2, none⟩ = some (.string e.nm) := B1.cell 2
  have ec3 : W.cell? ⟨w.heap.size + 1, 3, none⟩ = some (.int .i64 e.v.k) := B1.cell 3
  have ec4 : W.cell? ⟨w.heap.size + 1, 4, none⟩ = some (.int .i64 e.v.n) := B1.cell 4
  have ec5 : W.cell? ⟨w.heap.size + 1, 5, none⟩ = some (.string e.v.s) := B1.cell 5
  have ec6 : W.cell? ⟨w.heap.size + 1, 6, none⟩ = some (.slice A1 e.v.l.length c1) := B1.cell 6
  have ec7 : W.cell? ⟨w.heap.size + 1, 7, none⟩ = some (.slice A2 0 c2) := B1.cell 7
  clear B0 B1
  go_wp2_with fail
  go_loop [29] (fun i => i = .int .i64 0) (fun _ => 0)
  case atStart => exact rfl
  case round =>
    subst hrel
    go_wp2_with fail
    refine (HC.out W hbw).mono ?_
    rw [HQ.out]
    rintro en w1 ⟨rfl, rfl⟩
    cases q
    · have HK2 := Lib.hid (show e.kind cells loops at_ = (0, 5) by rw [HK.out, HQ.out]; rfl)
      go_wp2_with fail
      go_ret2
      exact ⟨by rw [HK2.out]; rfl, hbw⟩
    · have HK2 := Lib.hid (show e.kind cells loops at_ = (2, 0) by rw [HK.out, HQ.out]; rfl)
      go_wp2_with fail
      go_ret2
      exact ⟨by rw [HK2.out]; rfl, hbw⟩
end Go.Proofs.YtcmccjcelchlhaaGreatDoor
namespace Go.Proofs.YtcmccjcelchlhaaGreatDoor
open Go.RowKit
attribute [local go_sem ↓] Go.wp_at_zero Go.wp_at_succ

theorem cells_up {w : World} {B B' : Nat} {A : Option Addr} {l : List CellD} (h : CellsAt w B A l) (hb : B ≤ B') : CellsAt w B' A l := by
  obtain ⟨h0, cs, hr, hp⟩ := h
  exact ⟨h0, cs, hr.more hb, fun i hi => (hp i hi).up hb⟩
theorem nests_up {w : World} {B B' : Nat} {A : Option Addr} {l : List NestD} (h : NestsAt w B A l) (hb : B ≤ B') : NestsAt w B' A l := by
  obtain ⟨h0, cs, hr, hp⟩ := h
  exact ⟨h0, cs, hr.more hb, fun i hi => (hp i hi).up hb⟩
theorem idx_find {α : Type} (f : α → Bool) : ∀ (l : List α) (k : Nat), (l.find? f = none ∧ idxFrom f l k = -1) ∨ ∃ i, ∃ h : i < l.length, l.find? f = some l[i] ∧ idxFrom f l k = ((k + i : Nat) : Int)
  | [], _ => .inl ⟨rfl, rfl⟩
  | a :: r, k => by
    rw [List.find?_cons, idxFrom]
    cases hf : f a
    · rw [if_neg (by simp)]
      rcases idx_find f r (k + 1) with h | ⟨i, h, h1, h2⟩
      · exact .inl h
      · exact .inr ⟨i + 1, by simp; omega, by simpa using h1, by rw [h2]; congr 1; omega⟩
    · rw [if_pos rfl]
      exact .inr ⟨0, by simp, rfl, rfl⟩
set_option maxHeartbeats 2000000 in
set_option maxRecDepth 100000 in
theorem rkind_over (e : Ex) (cells : List CellD) (loops : List NestD) (hk : e.k = 5) (AC AN : Option Addr) (cc cn B : Nat) (at_ : List ByteArray) (A : Option Addr) (c : Nat) (cs : List Value) (w : World) (hP : PartOk e) (hI : ∀ a ∈ e.ar, RkSpec cells loops a) (hNL : ∀ d ∈ loops, d.loops.length ≤ 1048576) (hx : ExAt w B e cs) (hC : CellsAt w B AC cells) (hN : NestsAt w B AN loops) (ha : at_.length ≤ maxLen) (hat : StrsAt w B A at_) (hc : at_.length ≤ c) (hB : B ≤ w.heap.size) :
    Calls Tryz.prog 46 #[.agg #[.slice AC cells.length cc, .slice AN loops.length cn], .agg cs.toArray, .slice A at_.length c] w fun en w' => en = .returned (.tuple #[.int .i64 (e.kind cells loops at_).1, .int .i64 (e.kind cells loops at_).2]) ∧ Below w.heap.size w w' := by
  obtain ⟨hn, hs, hl, ha8, hx, hr, hi⟩ := hx
  rename_i A1 c1 A2 c2 cs
  have HK := Lib.hid (show e.kind cells loops at_ = (match nestK loops e.nm at_ with
      | none => (0, 5)
      | some at' => overL cells loops e.ar at' e.op) by rw [kind_eq, if_neg (by omega), if_neg (by omega), if_neg (by omega), if_pos hk]; rfl)
  have HCN := Lib.hid (And.intro hC hN)
  have HAT := Lib.hid (And.intro ha (And.intro hat (And.intro hc hB)))
  have HIX := Lib.hid (idx_find (fun n : NestD => decide (n.nm = e.nm)) loops 0)
  have HP := Lib.hid (And.intro (hP.op5 hk) (hP.a5 hk))
  have HR := Lib.hid (And.intro hr hi)
  have HI := Lib.hid hI
  have HNL := Lib.hid hNL
  obtain ⟨i0, hi0, hz0, hz1, hz2⟩ := info_parts infoStr
  clear hx hr hi hC hN hat hB hk hI hP hNL
  show Calls Tryz.prog 46 #[.agg #[.slice AC cells.length cc, .slice AN loops.length cn], .agg #[.int .i64 e.k, .int .i64 e.op, .string e.nm, .int .i64 e.v.k, .int .i64 e.v.n, .string e.v.s, .slice A1 e.v.l.length c1, .slice A2 e.ar.length c2], .slice A at_.length c] w _
  go_enter Tryz.func46, Tryz.ntmps46
  go_upto_region 1 with (fail)
  obtain ⟨W, hW⟩ : ∃ W, W = ((w.alloc (.cells #[.slice AC cells.length cc, .slice AN loops.length cn] 55 (0, 0))).alloc (.cells #[.int .i64 e.k, .int .i64 e.op, .string e.nm, .int .i64 e.v.k, .int .i64 e.v.n, .string e.v.s, .slice A1 e.v.l.length c1, .slice A2 e.ar.length c2] 27 (0, 0))) := ⟨_, rfl⟩
  have hbw : Below w.heap.size w W := by rw [hW]; exact (((Below.refl _ w).alloc (Nat.le_refl _) _).alloc (by simp) _)
  have B0 : Blk W (w.heap.size) 55 #[.slice AC cells.length cc, .slice AN loops.length cn] := by
    rw [hW]
    have := Blk.new w 55 #[.slice AC cells.length cc, .slice AN loops.length cn]
    have := this.alloc (.cells #[.int .i64 e.k, .int .i64 e.op, .string e.nm, .int .i64 e.v.k, .int .i64 e.v.n, .string e.v.s, .slice A1 e.v.l.length c1, .slice A2 e.ar.length c2] 27 (0, 0))
    exact this
  have B1 : Blk W (w.heap.size + 1) 27 #[.int .i64 e.k, .int .i64 e.op, .string e.nm, .int .i64 e.v.k, .int .i64 e.v.n, .string e.v.s, .slice A1 e.v.l.length c1, .slice A2 e.ar.length c2] := by
    rw [hW]
    have := Blk.new (w.alloc (.cells #[.slice AC cells.length cc, .slice AN loops.length cn] 55 (0, 0))) 27 #[.int .i64 e.k, .int .i64 e.op, .string e.nm, .int .i64 e.v.k, .int .i64 e.v.n, .string e.v.s, .slice A1 e.v.l.length c1, .slice A2 e.ar.length c2]
    rwa [World.size_alloc] at this
  have hsz : W.heap.size = w.heap.size + 2 := by rw [hW]; simp
  rw [← hW]
  clear hW hsz
  have tc0 : W.cell? ⟨w.heap.size, 0, none⟩ = some (.slice AC cells.length cc) := B0.cell 0
  have tc1 : W.cell? ⟨w.heap.size, 1, none⟩ = some (.slice AN loops.length cn) := B0.cell 1
  have ec0 : W.cell? ⟨w.heap.size + 1, 0, none⟩ = some (.int .i64 e.k) := B1.cell 0
  have ec1 : W.cell? ⟨w.heap.size + 1, 1, none⟩ = some (.int .i64 e.op) := B1.cell 1
  have ec2 : W.cell? ⟨w.heap.size + 1, 2, none⟩ = some (.string e.nm) := B1.cell 2
  have ec3 : W.cell? ⟨w.heap.size + 1, 3, none⟩ = some (.int .i64 e.v.k) := B1.cell 3
  have ec4 : W.cell? ⟨w.heap.size + 1, 4, none⟩ = some (.int .i64 e.v.n) := B1.cell 4
  have ec5 : W.cell? ⟨w.heap.size + 1, 5, none⟩ = some (.string e.v.s) := B1.cell 5
  have ec6 : W.cell? ⟨w.heap.size + 1, 6, none⟩ = some (.slice A1 e.v.l.length c1) := B1.cell 6
  have ec7 : W.cell? ⟨w.heap.size + 1, 7, none⟩ = some (.slice A2 e.ar.length c2) := B1.cell 7
  have HNE := Lib.hid (nest_any loops (.slice AC cells.length cc) AN cn B e.nm W ⟨_, _, _, rfl⟩ (HCN.out.2.keep (hbw.mono HAT.out.2.2.2)) (Nat.le_trans HAT.out.2.2.2 hbw.size))
  rcases HIX.out with ⟨hf, hix⟩ | ⟨i, hi, hf, hix⟩
  · have hp : nestP AN (nestIdx loops e.nm) = .pointer none := by unfold nestIdx nestP; rw [hix]; rfl
    rw [hp] at HNE
    have HK2 := Lib.hid (show e.kind cells loops at_ = (0, 5) by rw [HK.out]; unfold nestK; rw [hf])
    clear hf hix hp B0 B1
    go_wp2_with fail
    refine HNE.out.mono ?_
    rintro en W2 ⟨rfl, hb2⟩
    have hbw2 := hbw.trans (hb2.mono hbw.size)
    clear tc0 tc1 ec0 ec1 ec2 ec3 ec4 ec5 ec6 ec7
    go_wp2_with fail
    go_ret2
    exact ⟨by rw [HK2.out]; rfl, hbw2⟩
  · obtain ⟨ad0, ci0, rfl, hb0, hci0, hcell0⟩ := (HCN.out.2.keep (hbw.mono HAT.out.2.2.2)).at_ hi
    have hp : nestP (some ad0) (nestIdx loops e.nm) = .pointer (some (ad0.add (i * 2))) := by unfold nestIdx nestP; rw [hix, if_pos (by omega)]; simp
    rw [hp] at HNE
    obtain ⟨d, hed⟩ : ∃ d, loops[i] = d := ⟨_, rfl⟩
    have hdl : d ∈ loops := by rw [← hed]; exact List.getElem_mem hi
    rw [hed] at hci0 hf
    have HF := Lib.hid (show nestK loops e.nm at_ = if beginsB d.loops at_ then some (d.loops ++ [d.nm]) else none by unfold nestK; rw [hf])
    obtain ⟨⟨A', c', rfl, hdx, hdc⟩, hd1, hd2, hd3⟩ := hci0
    have HDX := Lib.hid (And.intro hdx (And.intro hd2 (HNL.out d hdl)))
    have mc0 : W.cell? (ad0.add (i * 2)) = some (.string d.nm) := hcell0 0 _ rfl
    have mc1 : W.cell? ⟨(ad0.add (i * 2)).block, (ad0.add (i * 2)).off + 1, none⟩ = some (.slice A' d.loops.length c') := hcell0 1 _ rfl
    obtain ⟨q, hq⟩ : ∃ q, beginsB d.loops at_ = q := ⟨_, rfl⟩
    have HQ := Lib.hid hq
    have HBG := Lib.hid (show ∀ w', Below W.heap.size W w' → Calls Tryz.prog 47 #[.slice A' d.loops.length c', .slice A at_.length c] w' fun e w'' => e = .returned (.bool q) ∧ Below W.heap.size W w'' from fun w' hb => by
      have h := begins_any d.loops at_ A' c' A c B w' HDX.out.2.1 HAT.out.1 (HDX.out.1.below (hb.mono (Nat.le_trans HAT.out.2.2.2 hbw.size))) (HAT.out.2.1.below ((hbw.trans (hb.mono hbw.size)).mono HAT.out.2.2.2)) HAT.out.2.2.1 (Nat.le_trans HAT.out.2.2.2 (Nat.le_trans hbw.size hb.size))
      rw [hq] at h
      exact h.mono fun _ _ ⟨he, hk⟩ => ⟨he, hb.trans (hk.mono hb.size)⟩)
    clear hdx hd2 hd3 hdl hcell0 hed hf hix hp hq
    go_wp2_with fail
    refine HNE.out.mono ?_
    rintro en W2 ⟨rfl, hb2⟩
    have hbw2 := hbw.trans (hb2.mono hbw.size)
    have nc0 : W2.cell? (ad0.add (i * 2)) = some (.string d.nm) := Below.cell_of hb2 mc0
    have nc1 : W2.cell? ⟨(ad0.add (i * 2)).block, (ad0.add (i * 2)).off + 1, none⟩ = some (.slice A' d.loops.length c') := Below.cell_of hb2 mc1
    clear tc0 tc1 ec0 ec1 ec2 ec3 ec4 ec5 ec6 ec7 HNE
    go_wp2_with fail
    refine (HBG.out W2 hb2).mono ?_
    rintro en W9 ⟨rfl, hb9⟩
    have hbw9 := hbw.trans (hb9.mono hbw.size)
    have B0 := B0.below hb9 B0.lt
    have B1 := B1.below hb9 B1.lt
    clear nc0 nc1 hb2 hbw2
    have nc0 : W9.cell? (ad0.add (i * 2)) = some (.string d.nm) := Below.cell_of hb9 mc0
    have nc1 : W9.cell? ⟨(ad0.add (i * 2)).block, (ad0.add (i * 2)).off + 1, none⟩ = some (.slice A' d.loops.length c') := Below.cell_of hb9 mc1
    have HBB9 : Below B W W9 := hb9.mono (Nat.le_trans HAT.out.2.2.2 hbw.size)
    clear mc0 mc1 hb9
    cases q
    · have HK2 := Lib.hid (show e.kind cells loops at_ = (0, 5) by rw [HK.out, HF.out, HQ.out]; rfl)
      clear B0 B1
      go_wp2_with fail
      go_ret2
      exact ⟨by rw [HK2.out]; rfl, hbw9⟩
    · have hB9 := hbw9.mono HAT.out.2.2.2
      have h1 : 0 < e.ar.length := by have := HP.out.2; omega
      obtain ⟨ad, ci, rfl, hb, hci, hcell⟩ := ExAt.arg (HR.out.1.below hB9) (fun i h => (HR.out.2 i h).keep hB9) h1
      obtain ⟨a, hea⟩ : ∃ a, e.ar[0] = a := ⟨_, rfl⟩
      have ham : a ∈ e.ar := by rw [← hea]; exact List.getElem_mem h1
      have hear : e.ar = [a] := by have h := list_one e.ar HP.out.2 h1; rwa [hea] at h
      have HK2 := Lib.hid (show e.kind cells loops at_ = if (a.kind cells loops (d.loops ++ [d.nm])).2 ≠ 0 then (0, (a.kind cells loops (d.loops ++ [d.nm])).2) else overT e.op (a.kind cells loops (d.loops ++ [d.nm])).1 by
        rw [HK.out, HF.out, HQ.out]
        show overL cells loops e.ar (d.loops ++ [d.nm]) e.op = _
        rw [hear, overL])
      obtain ⟨g, hg⟩ : ∃ g, a.kind cells loops (d.loops ++ [d.nm]) = g := ⟨_, rfl⟩
      obtain ⟨g1, g2⟩ := g
      have HGF := Lib.hid hg
      rw [hea] at hci
      have HCIK := hci
      obtain ⟨hn1, hs1, hl1, ha1, hx1, hr1, hi1⟩ := hci
      rename_i A3 c3 A4 c4 cs1
      have hcell' : ∀ j u, (exCells a A3 c3 A4 c4)[j]? = some u → W9.cell? (ad.add j) = some u := fun j u hu => by have h := hcell j u hu; rwa [Nat.zero_mul, add_zero_ad] at h
      have fc0 : W9.cell? (ad) = some (.int .i64 a.k) := hcell' 0 _ rfl
      have fc1 : W9.cell? ⟨(ad).block, (ad).off + 1, none⟩ = some (.int .i64 a.op) := hcell' 1 _ rfl
      have fc2 : W9.cell? ⟨(ad).block, (ad).off + 2, none⟩ = some (.string a.nm) := hcell' 2 _ rfl
      have fc3 : W9.cell? ⟨(ad).block, (ad).off + 3, none⟩ = some (.int .i64 a.v.k) := hcell' 3 _ rfl
      have fc4 : W9.cell? ⟨(ad).block, (ad).off + 4, none⟩ = some (.int .i64 a.v.n) := hcell' 4 _ rfl
      have fc5 : W9.cell? ⟨(ad).block, (ad).off + 5, none⟩ = some (.string a.v.s) := hcell' 5 _ rfl
      have fc6 : W9.cell? ⟨(ad).block, (ad).off + 6, none⟩ = some (.slice A3 a.v.l.length c3) := hcell' 6 _ rfl
      have fc7 : W9.cell? ⟨(ad).block, (ad).off + 7, none⟩ = some (.slice A4 a.ar.length c4) := hcell' 7 _ rfl
      clear hx1 hr1 hi1 hcell hea hg hear
      clear h1 hcell' HR
      have HCI := Lib.hid HCIK
      have tc0 : W9.cell? ⟨w.heap.size, 0, none⟩ = some (.slice AC cells.length cc) := B0.cell 0
      have tc1 : W9.cell? ⟨w.heap.size, 1, none⟩ = some (.slice (some ad0) loops.length cn) := B0.cell 1
      have ec1 : W9.cell? ⟨w.heap.size + 1, 1, none⟩ = some (.int .i64 e.op) := B1.cell 1
      have ec7 : W9.cell? ⟨w.heap.size + 1, 7, none⟩ = some (.slice (some ad) 1 c2) := by have h := B1.cell 7; rwa [show (#[.int .i64 e.k, .int .i64 e.op, .string e.nm, .int .i64 e.v.k, .int .i64 e.v.n, .string e.v.s, .slice A1 e.v.l.length c1, .slice (some ad) e.ar.length c2] : Array Value)[7]? = some (.slice (some ad) 1 c2) from by rw [HP.out.2]; rfl] at h
      have HS := Lib.hid (show ∀ w', Below W9.heap.size W9 w' → w'.cell? ⟨w.heap.size, 0, none⟩ = some (.slice AC cells.length cc) ∧ w'.cell? ⟨w.heap.size, 1, none⟩ = some (.slice (some ad0) loops.length cn) ∧ w'.cell? ⟨w.heap.size + 1, 7, none⟩ = some (.slice (some ad) 1 c2) ∧ w'.cell? (ad0.add (i * 2)) = some (.string d.nm) ∧ w'.cell? ⟨(ad0.add (i * 2)).block, (ad0.add (i * 2)).off + 1, none⟩ = some (.slice A' d.loops.length c') ∧ w'.cell? ad = some (.int .i64 a.k) ∧ w'.cell? ⟨ad.block, ad.off + 1, none⟩ = some (.int .i64 a.op) ∧ w'.cell? ⟨ad.block, ad.off + 2, none⟩ = some (.string a.nm) ∧ w'.cell? ⟨ad.block, ad.off + 3, none⟩ = some (.int .i64 a.v.k) ∧ w'.cell? ⟨ad.block, ad.off + 4, none⟩ = some (.int .i64 a.v.n) ∧ w'.cell? ⟨ad.block, ad.off + 5, none⟩ = some (.string a.v.s) ∧ w'.cell? ⟨ad.block, ad.off + 6, none⟩ = some (.slice A3 a.v.l.length c3) ∧ w'.cell? ⟨ad.block, ad.off + 7, none⟩ = some (.slice A4 a.ar.length c4) ∧ Below W9.heap.size W9 w' from fun w' hb => ⟨Below.cell_of hb tc0, Below.cell_of hb tc1, Below.cell_of hb ec7, Below.cell_of hb nc0, Below.cell_of hb nc1, Below.cell_of hb fc0, Below.cell_of hb fc1, Below.cell_of hb fc2, Below.cell_of hb fc3, Below.cell_of hb fc4, Below.cell_of hb fc5, Below.cell_of hb fc6, Below.cell_of hb fc7, hb⟩)
      have hq0 : Below W9.heap.size W9 W9 := Below.refl _ _
      have hq0a : ∀ o, Below W9.heap.size W9 (W9.alloc o).drew := fun o => (hq0.alloc (Nat.le_refl _) _).drew
      have hs9 : B ≤ W9.heap.size := Nat.le_trans HAT.out.2.2.2 hbw9.size
      have HI1 := Lib.hid (HI.out a ham)
      have HB9 := Lib.hid HBB9
      have K1 := Lib.hid (show ∀ w', Below W9.heap.size W9 w' → Calls Tryz.prog 39 #[.slice A' d.loops.length c'] w' fun en w'' => ∃ v, en = .returned v ∧ w''.ownsRow W9.heap.size 9 1 v d.loops.length (strV d.loops) ∧ Below W9.heap.size W9 w'' ∧ Below w'.heap.size w' w'' from fun w' hb =>
        (cloneS d.loops A' c' B w' ((HDX.out.1.below ((Below.refl B W).trans (show Below B W w' from (show Below B W W9 from HB9.out).trans (hb.mono hs9))))) (by have := HDX.out.2.2; omega)).mono fun _ _ ⟨v, he, ho, hk⟩ => ⟨v, he, own_base ho hb.size, hb.trans (hk.mono hb.size), hk⟩)
      have K3 := Lib.hid (show ∀ w' g cap, Below W9.heap.size W9 w' → w'.ownsRow W9.heap.size 9 1 (.slice (some ⟨g, 0, none⟩) (d.loops.length + 1) cap) (d.loops.length + 1) (strV d.loops ++ [.string d.nm]) → Calls Tryz.prog 21 #[.agg #[.slice AC cells.length cc, .slice (some ad0) loops.length cn], .agg #[.int .i64 a.k, .int .i64 a.op, .string a.nm, .int .i64 a.v.k, .int .i64 a.v.n, .string a.v.s, .slice A3 a.v.l.length c3, .slice A4 a.ar.length c4], .slice (some ⟨g, 0, none⟩) (d.loops.length + 1 : Nat) cap] w' fun en w'' => en = .returned (.tuple #[.int .i64 g1, .int .i64 g2]) ∧ Below W9.heap.size W9 w'' from by
        intro w' g cap hb ho
        have hB' := hB9.trans (hb.mono hs9)
        have hww := hbw9.trans (hb.mono hbw9.size)
        have hlen : (d.loops ++ [d.nm]).length = d.loops.length + 1 := by simp
        have h := HI1.out AC (some ad0) cc cn w'.heap.size (d.loops ++ [d.nm]) (some ⟨g, 0, none⟩) cap _ w' ((HCI.out.keep (hb.mono hs9)).up (Nat.le_trans hs9 hb.size)) (cells_up (HCN.out.1.keep (hww.mono HAT.out.2.2.2)) (Nat.le_trans hs9 hb.size)) (nests_up (HCN.out.2.keep (hww.mono HAT.out.2.2.2)) (Nat.le_trans hs9 hb.size)) (by rw [hlen]; have := HDX.out.2.2; unfold maxLen; omega) (by rw [StrsAt, strV_snoc, hlen]; exact Reads.of_own ho) (by rw [hlen]; exact own_cap ho) (Nat.le_refl _)
        rw [hlen, HGF.out] at h
        exact h.mono fun _ _ ⟨he, hk⟩ => ⟨he, hb.trans (hk.mono hb.size)⟩)
      clear ham
      go_upto_region 4 with (fail)
      go_region_held3 (fun w' => w'.cell? ⟨w.heap.size, 0, none⟩ = some (.slice AC cells.length cc) ∧ w'.cell? ⟨w.heap.size, 1, none⟩ = some (.slice (some ad0) loops.length cn) ∧ w'.cell? ⟨w.heap.size + 1, 7, none⟩ = some (.slice (some ad) 1 c2) ∧ w'.cell? (ad0.add (i * 2)) = some (.string d.nm) ∧ w'.cell? ⟨(ad0.add (i * 2)).block, (ad0.add (i * 2)).off + 1, none⟩ = some (.slice A' d.loops.length c') ∧ w'.cell? ad = some (.int .i64 a.k) ∧ w'.cell? ⟨ad.block, ad.off + 1, none⟩ = some (.int .i64 a.op) ∧ w'.cell? ⟨ad.block, ad.off + 2, none⟩ = some (.string a.nm) ∧ w'.cell? ⟨ad.block, ad.off + 3, none⟩ = some (.int .i64 a.v.k) ∧ w'.cell? ⟨ad.block, ad.off + 4, none⟩ = some (.int .i64 a.v.n) ∧ w'.cell? ⟨ad.block, ad.off + 5, none⟩ = some (.string a.v.s) ∧ w'.cell? ⟨ad.block, ad.off + 6, none⟩ = some (.slice A3 a.v.l.length c3) ∧ w'.cell? ⟨ad.block, ad.off + 7, none⟩ = some (.slice A4 a.ar.length c4) ∧ Below W9.heap.size W9 w')
        (first | exact HS.out _ hq0 | exact HS.out _ hq0.drew | exact HS.out _ hq1 | exact HS.out _ hq2 | exact HS.out _ hq3 | exact HS.out _ (hq1.alloc (Nat.le_trans hq0.size hq1.size) _) | exact HS.out _ (hq0a _))
        (first
          | (go_at_call 39; (with_reducible refine (K1.out _ hq0.drew).mono ?_); rintro e1 w1 ⟨v, rfl, ho1, hq1, hk1'⟩)
          | (go_at_call 39; (with_reducible refine (K1.out _ (hq0a _)).mono ?_); rintro e1 w1 ⟨v, rfl, ho1, hq1, hk1'⟩; have hzz := Below.cell_of (a := ⟨W9.heap.size, 0, none⟩) (v := .string d.nm) hk1' (by simp [go_sem]))
          | (refine step_append_lies _ rfl _ _ 34 rfl W9.heap.size 9 i0 (.string ByteArray.empty) 1 16 Tryz.underlying34 hi0 hz0 hz1 hz2 rfl (by decide) v d.loops.length (strV d.loops) rfl (ho1.alloc _) ⟨w1.heap.size, 0, none⟩ 1 1 [.string d.nm] rfl rfl (by intro j u hj; cases j <;> simp_all [go_sem]) (by intro u hu; simp only [List.mem_singleton] at hu; subst hu; rfl) (by decide) (by have := HDX.out.2.2; unfold maxLen; omega) (by have := HDX.out.2.2; omega) (by have := hq1.size; first | omega | (simp; omega)) _ rfl ?_; intro g cap w2 ho2 hgr _ _; have hq2 := (hq1.alloc (Nat.le_trans hq0.size hq1.size) _).grown hgr (by have := hq1.size; simp; omega) (fun g hg => (ho1.lt g hg).1))
          | (refine step_append_lies _ rfl _ _ 34 rfl W9.heap.size 9 i0 (.string ByteArray.empty) 1 16 Tryz.underlying34 hi0 hz0 hz1 hz2 rfl (by decide) v d.loops.length (strV d.loops) rfl ho1 ⟨W9.heap.size, 0, none⟩ 1 1 [.string d.nm] rfl rfl (by intro j u hj; cases j with | zero => (have hu : u = .string d.nm := by simpa using hj.symm); subst hu; exact hzz | succ j => simp at hj) (by intro u hu; simp only [List.mem_singleton] at hu; subst hu; rfl) (by decide) (by have := HDX.out.2.2; unfold maxLen; omega) (by have := HDX.out.2.2; omega) (by have := hq1.size; first | omega | (simp; omega)) _ rfl ?_; intro g cap w2 ho2 hgr _ _; have hq2 := hq1.grown hgr hq1.size (fun g hg => (ho1.lt g hg).1))
          | (go_at_call 21; (with_reducible refine (K3.out _ _ _ hq2 ho2).mono ?_); rintro e3 w3 ⟨rfl, hq3⟩))
      all_goals
        have hbwz := hbw9.trans (hq3.mono hbw9.size)
        by_cases h0 : g2 = 0
        rotate_left
        · have bg : (g2 != 0) = true := by simpa using h0
          have HK3 := Lib.hid (show e.kind cells loops at_ = (0, g2) by rw [HK2.out, HGF.out, if_pos h0])
          clear h0 HS HK HK2
          go_wp2_with fail
          go_ret2
          exact ⟨by rw [HK3.out]; rfl, hbwz⟩
        · subst h0
          have HK3 := Lib.hid (show e.kind cells loops at_ = overT e.op g1 by rw [HK2.out, HGF.out]; exact if_neg (fun h => h rfl))
          have hec1 : w3.cell? ⟨w.heap.size + 1, 1, none⟩ = some (.int .i64 e.op) := Below.cell_of hq3 (B1.cell 1)
          obtain ⟨ob, hob⟩ : ∃ b, overB e.op g1 = b := ⟨_, rfl⟩
          have HOV := Lib.hid (over_any e.op g1 w3 HP.out.1.1 HP.out.1.2)
          rw [hob] at HOV
          have HK4 := Lib.hid (show e.kind cells loops at_ = if ob then (overK e.op g1, 0) else (0, 8) by rw [HK3.out, over_eq _ _ HP.out.1.1 HP.out.1.2, hob])
          clear HS HK HK2 HK3 hob
          go_wp2_with fail
          refine HOV.out.mono ?_
          rintro en w4 ⟨rfl, rfl⟩
          cases ob
          · have HK5 := Lib.hid (show e.kind cells loops at_ = (0, 8) by rw [HK4.out]; rfl)
            go_wp2_with fail
            go_ret2
            exact ⟨by rw [HK5.out]; try rfl, hbwz⟩
          · have HK5 := Lib.hid (show e.kind cells loops at_ = (overK e.op g1, 0) by rw [HK4.out]; rfl)
            go_wp2_with fail
            go_ret2
            exact ⟨by rw [HK5.out]; try rfl, hbwz⟩
end Go.Proofs.YtcmccjcelchlhaaGreatDoor
namespace Go.Proofs.YtcmccjcelchlhaaGreatDoor
open Go.RowKit
attribute [local go_sem ↓] Go.wp_at_zero Go.wp_at_succ

theorem typed_any (cells : List CellD) (loops : List NestD) (kv1 kv2 : List (ByteArray × Value)) (m1 m2 : Nat) (hNL : ∀ d ∈ loops, d.loops.length ≤ 1048576) (e : Ex) : e.fault = 0 → TySpec cells loops kv1 kv2 m1 m2 e := by
  induction e using Ex.ind with
  | h e ih =>
    intro hf B at_ A c cs w hx hw ha hat hc hB
    have P := partOk (fault_part hf)
    have hI := fun a h => ih a h (fault_arg hf a h)
    have hk := P.k
    obtain hk | hk | hk | hk | hk : e.k = 1 ∨ e.k = 2 ∨ e.k = 3 ∨ e.k = 4 ∨ e.k = 5 := by omega
    · exact typed_1 e cells loops hk kv1 kv2 m1 m2 B at_ A c cs w hx hw ha hat hc hB
    · exact typed_2 e cells loops hk kv1 kv2 m1 m2 B at_ A c cs w hx hw ha hat hc hB
    · exact typed_3 e cells loops hk kv1 kv2 m1 m2 B at_ A c cs w hx hw ha hat hc hB
    · exact typed_4 e cells loops hk kv1 kv2 m1 m2 B at_ A c cs w P hI hx hw ha hat hc hB
    · exact typed_5 e cells loops hk kv1 kv2 m1 m2 B at_ A c cs w P hI hNL hx hw ha hat hc hB
end Go.Proofs.YtcmccjcelchlhaaGreatDoor
