/- The walk of SightOf. · The walk of the reference's checkBound. -/
import Derived.Test.YtcmccjcelchlhaaGreatDoorM13
import Derived.Deep.RegionHeld3
import Derived.Deep.AppendLies
import Derived.Test.YtcmccjcelchlhaaGreatDoorM12
namespace Go.Proofs.YtcmccjcelchlhaaGreatDoor
open Go.RowKit
attribute [local go_sem ↓] Go.wp_at_zero Go.wp_at_succ

/-- what SightOf hands back -/
structure SiR (en : Ending) (w w' : World) (B : Nat) (cells : List CellD) (loops : List NestD) (bounds : List BoundD) (rows : List RowD) : Prop where
  ex : ∃ p, en = .returned (.tuple #[.pointer p, .int .i64 (sceneF cells loops bounds rows)]) ∧ (sceneF cells loops bounds rows = 0 → ∃ gs m1 m2 m3 m4 kv1 kv2 kv3 kv4, p = some ⟨gs, 0, none⟩ ∧ SiAt w' B gs m1 m2 m3 m4 kv1 kv2 kv3 kv4 cells loops bounds rows ∧ w.heap.size ≤ m3 ∧ w.heap.size ≤ m4 ∧ w.heap.size ≤ gs)
  hb : Below w.heap.size w w'
theorem SiR.bad {en : Ending} {w w' : World} {B : Nat} {cells : List CellD} {loops : List NestD} {bounds : List BoundD} {rows : List RowD} (h : sceneF cells loops bounds rows ≠ 0) (he : en = .returned (.tuple #[.pointer none, .int .i64 (sceneF cells loops bounds rows)])) (hb : Below w.heap.size w w') : SiR en w w' B cells loops bounds rows :=
  ⟨⟨none, he, fun h0 => absurd h0 h⟩, hb⟩
set_option maxHeartbeats 8000000 in
set_option maxRecDepth 100000 in
theorem sightOf_any (cells : List CellD) (loops : List NestD) (bounds : List BoundD) (rows : List RowD) (AC AN AB AR : Option Addr) (cc cn cb cr B : Nat) (w : World) (hC : CellsAt w B AC cells) (hN : NestsAt w B AN loops) (hLb : BoundsAt w B AB bounds) (hLr : RowssAt w B AR rows) (hCL : ∀ d ∈ cells, d.loops.length ≤ 1048576) (hNL : ∀ d ∈ loops, d.loops.length ≤ 1048576) (hB : B ≤ w.heap.size) (htab : Tab10 w) :
    Calls Tryz.prog 22 #[.agg #[.slice AC cells.length cc, .slice AN loops.length cn, .slice AB bounds.length cb, .slice AR rows.length cr]] w fun en w' => SiR en w w' B cells loops bounds rows := by
  have HL := Lib.hid (And.intro hC (And.intro hN (And.intro hLb (And.intro hLr hB))))
  have BAt := Lib.hid hLb
  have RAt := Lib.hid hLr
  have HCL := Lib.hid hCL
  have HNL := Lib.hid hNL
  have HTB := Lib.hid htab
  have hlb := hLb.1
  have hlr := hLr.1
  unfold maxLen at hlb hlr
  have hmm := @run_makeMap Tryz.prog
  clear hC hN hLb hLr hCL hNL hB htab
  go_enter Tryz.func22, Tryz.ntmps22
  go_upto_region 1 with (fail)
  obtain ⟨W, hW⟩ : ∃ W, W = (w.alloc (.cells #[.slice AC cells.length cc, .slice AN loops.length cn, .slice AB bounds.length cb, .slice AR rows.length cr] 33 (0, 0))) := ⟨_, rfl⟩
  have hbw : Below w.heap.size w W := by rw [hW]; exact ((Below.refl _ w).alloc (Nat.le_refl _) _)
  have B0 : Blk W (w.heap.size) 33 #[.slice AC cells.length cc, .slice AN loops.length cn, .slice AB bounds.length cb, .slice AR rows.length cr] := by
    rw [hW]
    have := Blk.new w 33 #[.slice AC cells.length cc, .slice AN loops.length cn, .slice AB bounds.length cb, .slice AR rows.length cr]
    exact this
  have hsz : W.heap.size = w.heap.size + 1 := by rw [hW]; simp
  rw [← hW]
  have sc0 : W.cell? ⟨w.heap.size, 0, none⟩ = some (.slice AC cells.length cc) := B0.cell 0
  have sc1 : W.cell? ⟨w.heap.size, 1, none⟩ = some (.slice AN loops.length cn) := B0.cell 1
  have sc2 : W.cell? ⟨w.heap.size, 2, none⟩ = some (.slice AB bounds.length cb) := B0.cell 2
  have sc3 : W.cell? ⟨w.heap.size, 3, none⟩ = some (.slice AR rows.length cr) := B0.cell 3
  clear hW hsz
  have hsB := Nat.le_trans HL.out.2.2.2.2 hbw.size
  have HWO := Lib.hid (worldOf_any cells loops AC cc AN cn B W (HL.out.1.keep (hbw.mono HL.out.2.2.2.2)) (HL.out.2.1.keep (hbw.mono HL.out.2.2.2.2)) hsB)
  go_wp2_with fail
  refine HWO.out.mono ?_
  rintro en W1 ⟨⟨f, rfl, hf, hmap⟩, hb1⟩
  have HMAP := Lib.hid hmap
  have HWF := Lib.hid hf.symm
  have hbw1 := hbw.trans (hb1.mono hbw.size)
  have hsz1 := hb1.size
  have B0 := B0.below hb1 B0.lt
  clear hf hmap HWO sc0 sc1 sc2 sc3 hb1
  go_upto_region 2 with (fail)
  obtain ⟨W2, hW2⟩ : ∃ W2, W2 = W1.alloc (.cells #[.map (some (W.heap.size + 1)), .map (some (W.heap.size + 1 + 1))] 49 (0, 0)) := ⟨_, rfl⟩
  have hb2 : Below W1.heap.size W1 W2 := hW2 ▸ (Below.refl _ W1).alloc (Nat.le_refl _) _
  have B2 : Blk W2 W1.heap.size 49 #[.map (some (W.heap.size + 1)), .map (some (W.heap.size + 1 + 1))] := hW2 ▸ Blk.new W1 _ _
  have hbw2 := hbw1.trans (hb2.mono hbw1.size)
  have B0 := B0.below hb2 B0.lt
  have hs2 : W1.heap.size < W2.heap.size := by rw [hW2]; simp
  rw [← hW2]
  by_cases h0 : f = 0
  rotate_left
  · have bg : (f != 0) = true := by simpa using h0
    have HK := Lib.hid (show sceneF cells loops bounds rows = f by unfold sceneF; rw [HWF.out, if_pos h0])
    have H0 := Lib.hid h0
    clear h0 hW2
    go_wp2_with fail
    go_ret2
    exact SiR.bad (by rw [HK.out]; exact H0.out) (by rw [HK.out]; try rfl) hbw2
  subst h0
  obtain ⟨kv1, kv2, hm1, hm2, hkc, hkn⟩ := HMAP.out rfl
  have HTY := Lib.hid (show TyW W2 B (W.heap.size + 1) (W.heap.size + 1 + 1) kv1 kv2 cells loops from TyW.keep ⟨hm1, hkc, hm2, hkn⟩ hb2 (Nat.le_trans HL.out.2.2.2.2 hbw1.size))
  have HMLT := Lib.hid (And.intro hm1.lt hm2.lt)
  have HWK := Lib.hid (world_ok HWF.out)
  clear hm1 hm2 hkc hkn HMAP hW2
  have sc0 : W2.cell? ⟨w.heap.size, 0, none⟩ = some (.slice AC cells.length cc) := B0.cell 0
  have sc1 : W2.cell? ⟨w.heap.size, 1, none⟩ = some (.slice AN loops.length cn) := B0.cell 1
  have sc2 : W2.cell? ⟨w.heap.size, 2, none⟩ = some (.slice AB bounds.length cb) := B0.cell 2
  have sc3 : W2.cell? ⟨w.heap.size, 3, none⟩ = some (.slice AR rows.length cr) := B0.cell 3
  have uc0 : W2.cell? ⟨W1.heap.size, 0, none⟩ = some (.map (some (W.heap.size + 1))) := B2.cell 0
  have uc1 : W2.cell? ⟨W1.heap.size, 1, none⟩ = some (.map (some (W.heap.size + 1 + 1))) := B2.cell 1
  by_cases hlb1 : 20000 < bounds.length
  · have hlb2 : (20000 : Int) < (bounds.length : Nat) := by omega
    have HK := Lib.hid (show sceneF cells loops bounds rows = 2 by unfold sceneF; rw [HWF.out, if_neg (by decide), if_pos (.inl hlb1)])
    go_wp2_with fail
    go_ret2
    exact SiR.bad (by rw [HK.out]; decide) (by rw [HK.out]; try rfl) hbw2
  have hlb2 : ¬ (20000 : Int) < (bounds.length : Nat) := by omega
  by_cases hlr1 : 20000 < rows.length
  · have hlr2 : (20000 : Int) < (rows.length : Nat) := by omega
    have HK := Lib.hid (show sceneF cells loops bounds rows = 2 by unfold sceneF; rw [HWF.out, if_neg (by decide), if_pos (.inr hlr1)])
    go_wp2_with fail
    go_ret2
    exact SiR.bad (by rw [HK.out]; decide) (by rw [HK.out]; try rfl) hbw2
  have hlr2 : ¬ (20000 : Int) < (rows.length : Nat) := by omega
  have HLEN := Lib.hid (show ¬ (20000 < bounds.length ∨ 20000 < rows.length) by omega)
  clear hlb1 hlr1 hb2
  go_upto_region 7 with (fail)
  have hwW2 := B0.lt
  obtain ⟨W5, hW5⟩ : ∃ W5, W5 = (W2.alloc (.map #[] 0)).alloc (.map #[] 0) := ⟨_, rfl⟩
  have s5 : W5.heap.size = W2.heap.size + 1 + 1 := by rw [hW5]; simp
  have hb5 : Below W2.heap.size W2 W5 := hW5 ▸ ((Below.refl _ W2).alloc (Nat.le_refl _) _).alloc (by simp) _
  obtain ⟨W6, hW6⟩ : ∃ W6, W6 = W5.alloc (.cells #[.map (some (W.heap.size + 1)), .map (some (W.heap.size + 1 + 1)), .map (some W2.heap.size), .map (some (W2.heap.size + 1))] 90 (0, 0)) := ⟨_, rfl⟩
  have hb6 : Below W5.heap.size W5 W6 := hW6 ▸ (Below.refl _ W5).alloc (Nat.le_refl _) _
  have hb26 := hb5.trans (hb6.mono hb5.size)
  have k1 : MapIs W6 W2.heap.size [] := by rw [hW6, hW5]; exact ((MapIs.made W2).alloc _).alloc _
  have k2 : MapIs W6 (W2.heap.size + 1) [] := by
    have h := MapIs.made (W2.alloc (.map #[] 0))
    rw [World.size_alloc] at h
    rw [hW6, hW5]
    exact h.alloc _
  have k3 : Blk W6 (W2.heap.size + 1 + 1) 90 #[.map (some (W.heap.size + 1)), .map (some (W.heap.size + 1 + 1)), .map (some W2.heap.size), .map (some (W2.heap.size + 1))] := by
    have h := Blk.new W5 90 #[.map (some (W.heap.size + 1)), .map (some (W.heap.size + 1 + 1)), .map (some W2.heap.size), .map (some (W2.heap.size + 1))]
    rw [← hW6, s5] at h
    exact h
  have hbw6 := hbw2.trans (hb26.mono hbw2.size)
  have HSI := Lib.hid (show SiAt W6 B (W2.heap.size + 1 + 1) (W.heap.size + 1) (W.heap.size + 1 + 1) W2.heap.size (W2.heap.size + 1) kv1 kv2 [] [] cells loops [] [] from
    ⟨k3, HTY.out.keep hb26 (Nat.le_trans HL.out.2.2.2.2 hbw2.size), k1, k2, ⟨(fun _ _ _ h => (by cases h)), (fun _ _ h => (by cases h)), rfl⟩, ⟨(fun _ _ _ h => (by cases h)), (fun _ _ h => (by cases h)), rfl⟩, by
      have h1 := HMLT.out.1
      have h2 := HMLT.out.2
      have h3 := HL.out.2.2.2.2
      refine ⟨by omega, by omega, by omega, by omega, by omega, by omega, by omega, by omega, by omega, Nat.le_trans h3 hbw6.size⟩⟩)
  have HB0 := Lib.hid (B0.below hb26 B0.lt)
  have sc6 : W6.cell? ⟨w.heap.size, 2, none⟩ = some (.slice AB bounds.length cb) := HB0.out.cell 2
  rw [← hW5, ← hW6]
  clear hW5 hW6 k1 k2 k3 hb5 hb6 hb26 s5 B0 B2 sc0 sc1 sc2 sc3 uc0 uc1 hmm
  go_wp2_with fail
  clear sc6
  go_loopw [42, 7, 8, 9] (fun i _ _ _ wr => ∃ (k : Nat) (kv3 : List (ByteArray × Value)), k ≤ bounds.length ∧ i = .int .i64 k ∧ Hid (SiAt wr B (W2.heap.size + 1 + 1) (W.heap.size + 1) (W.heap.size + 1 + 1) W2.heap.size (W2.heap.size + 1) kv1 kv2 kv3 [] cells loops (bounds.take k) []) ∧ Hid (Blk wr w.heap.size 33 #[.slice AC cells.length cc, .slice AN loops.length cn, .slice AB bounds.length cb, .slice AR rows.length cr]) ∧ Hid (firstF (boundF cells) [] bounds = firstF (boundF cells) (bounds.take k) (bounds.drop k)) ∧ Below w.heap.size w wr) (fun i _ _ _ _ => bounds.length - (intOf i).toNat)
  case atStart => exact ⟨0, [], Nat.zero_le _, rfl, HSI, HB0, Lib.hid rfl, hbw6⟩
  case round =>
    clear HSI HB0 hbw6
    obtain ⟨k, kv3, hk, rfl, HSI, HB0, HD, hbr⟩ := hrel
    have hsr := hbr.size
    have hBr := hbr.mono HL.out.2.2.2.2
    have C0 := HB0.out
    have HMW := Lib.hid HSI.out.m3m.lt
    have sk2 : wr.cell? ⟨w.heap.size, 2, none⟩ = some (.slice AB bounds.length cb) := C0.cell 2
    by_cases hlt : k < bounds.length
    · obtain ⟨ad, ci, had, hb, hci, hcell⟩ := (BAt.out.keep hBr).at_ hlt
      subst had
      obtain ⟨b, hbe⟩ : ∃ b, bounds[k] = b := ⟨_, rfl⟩
      have HDD := Lib.hid (firstF_step (boundF cells) bounds k hlt)
      have HLAW := Lib.hid (fun w' (h1 : SiAt w' B (W2.heap.size + 1 + 1) (W.heap.size + 1) (W.heap.size + 1 + 1) W2.heap.size (W2.heap.size + 1) kv1 kv2 kv3 [] cells loops (bounds.take k) []) (h2 : Below B w w') => boundFault_any cells loops kv1 kv2 (W.heap.size + 1) (W.heap.size + 1 + 1) W2.heap.size (W2.heap.size + 1) (W2.heap.size + 1 + 1) B bounds (some ad) cb k hlt w' h1.blk h1.ty (BAt.out.keep h2) h1.ne.2.2.2.2.2.2.2.2.2)
      rw [hbe] at hci HDD HLAW
      have HBE := Lib.hid hbe
      have hbc := hci
      obtain ⟨⟨A1, c1, A2, c2, rfl, hr1, hr2⟩, hx1, hx2, hx3, hx4⟩ := hci
      have HBC := Lib.hid hbc
      have HBX := Lib.hid (And.intro hr1 (And.intro hr2 hx3))
      have HLT := Lib.hid hlt
      have fc0 : wr.cell? (ad.add (k * 7)) = some (.string b.nm) := hcell 0 _ rfl
      have fc1 : wr.cell? ⟨(ad.add (k * 7)).block, (ad.add (k * 7)).off + 1, none⟩ = some (.slice A1 b.row.length c1) := hcell 1 _ rfl
      have fc2 : wr.cell? ⟨(ad.add (k * 7)).block, (ad.add (k * 7)).off + 2, none⟩ = some (.int .i64 b.v.k) := hcell 2 _ rfl
      have fc3 : wr.cell? ⟨(ad.add (k * 7)).block, (ad.add (k * 7)).off + 3, none⟩ = some (.int .i64 b.v.n) := hcell 3 _ rfl
      have fc4 : wr.cell? ⟨(ad.add (k * 7)).block, (ad.add (k * 7)).off + 4, none⟩ = some (.string b.v.s) := hcell 4 _ rfl
      have fc5 : wr.cell? ⟨(ad.add (k * 7)).block, (ad.add (k * 7)).off + 5, none⟩ = some (.slice A2 b.v.l.length c2) := hcell 5 _ rfl
      have fc6 : wr.cell? ⟨(ad.add (k * 7)).block, (ad.add (k * 7)).off + 6, none⟩ = some (.bool b.asked) := hcell 6 _ rfl
      have hk0 : (0 : Int) ≤ (k : Nat) := by omega
      have hk1 : (k : Int) < (bounds.length : Nat) := by omega
      clear hcell hbe hbc hr1 hr2 hx1 hx2 hx3 hx4 hb
      go_upto_region 10 with (fail)
      obtain ⟨W3, hW3⟩ : ∃ W3, W3 = wr.alloc (.cells #[.string b.nm, .slice A1 b.row.length c1, .int .i64 b.v.k, .int .i64 b.v.n, .string b.v.s, .slice A2 b.v.l.length c2, .bool b.asked] 92 (0, 0)) := ⟨_, rfl⟩
      have hb3 : Below wr.heap.size wr W3 := hW3 ▸ (Below.refl _ wr).alloc (Nat.le_refl _) _
      have B8 : Blk W3 wr.heap.size 92 #[.string b.nm, .slice A1 b.row.length c1, .int .i64 b.v.k, .int .i64 b.v.n, .string b.v.s, .slice A2 b.v.l.length c2, .bool b.asked] := hW3 ▸ Blk.new wr _ _
      rw [← hW3]
      clear hW3 fc0 fc1 fc2 fc3 fc4 fc5 fc6 sk2
      have C0 := C0.below hb3 C0.lt
      have sl2 : W3.cell? ⟨w.heap.size, 2, none⟩ = some (.slice (some ad) bounds.length cb) := C0.cell 2
      have HSI3 := Lib.hid (HSI.out.keep hb3)
      have hbw3 := hbr.trans (hb3.mono hsr)
      obtain ⟨f1, hf1⟩ : ∃ f, boundF cells (bounds.take k) b = f := ⟨_, rfl⟩
      have HF1 := Lib.hid hf1
      have HLW := Lib.hid (HLAW.out W3 HSI3.out (hbw3.mono HL.out.2.2.2.2))
      rw [hf1] at HLW HDD
      clear hf1
      go_wp2_with fail
      refine HLW.out.mono ?_
      rintro en W4 ⟨rfl, hb4⟩
      have hbw4 := hbw3.trans (hb4.mono hbw3.size)
      have C0 := C0.below hb4 C0.lt
      have B8 := B8.below hb4 B8.lt
      have HSI4 := Lib.hid (HSI3.out.keep hb4)
      have HB4 := Lib.hid (show Below B wr W4 from (hb3.trans (hb4.mono hb3.size)).mono (Nat.le_trans HL.out.2.2.2.2 hsr))
      clear hb4 hb3 sl2 HLW HLAW HSI3 HSI
      by_cases h0 : f1 = 0
      rotate_left
      · have bg : (f1 != 0) = true := by simpa using h0
        have HK := Lib.hid (show sceneF cells loops bounds rows = f1 by unfold sceneF; rw [HWF.out, if_neg (by decide), if_neg HLEN.out, HD.out, HDD.out, if_pos h0, if_pos h0])
        have H0 := Lib.hid h0
        clear h0 B8 C0
        go_wp2_with fail
        go_ret2
        exact SiR.bad (by rw [HK.out]; exact H0.out) (by rw [HK.out]; try rfl) hbw4
      subst h0
      obtain ⟨ok1, ok2, ok3⟩ := bound_ok HWK.out.1 HCL.out HF1.out
      have hkey : (bKey b).size ≤ 100000000 := by
        have h := rowKeyL_len b.nm.data.toList b.row ok3
        have h2 : b.nm.data.toList.length ≤ 16 := by simpa using ok1
        have h3 : (bKey b).size = (rowKeyL b.nm.data.toList b.row).length := by simp [bKey, ByteArray.size]
        omega
      have HKY := Lib.hid hkey
      have hB4 := hbw4.mono HL.out.2.2.2.2
      have hs4 := Nat.le_trans HL.out.2.2.2.2 hbw4.size
      have K1 := Lib.hid (show ∀ w', Below W4.heap.size W4 w' → Calls Tryz.prog 50 #[.string b.nm, .slice A1 b.row.length c1] w' fun en w'' => en = .returned (.string (bKey b)) ∧ Below W4.heap.size W4 w'' from fun w' hb =>
        (rowKey_any b.nm b.row A1 c1 B w' (by omega) ok2 ok3 (HBX.out.1.below ((Below.refl B wr).trans (show Below B wr w' from (show Below B wr W4 from HB4.out).trans (hb.mono hs4)))) (Nat.le_trans hs4 hb.size) (HTB.out.below (hbw4.trans (hb.mono hbw4.size)))).mono fun _ _ ⟨he, hk⟩ => ⟨he, hb.trans (hk.mono hb.size)⟩)
      have HPUT := Lib.hid (show ∀ w1, Below W4.heap.size W4 w1 → ∃ w2, (Instr.mapUpdate 87 (.map (some W2.heap.size)) (.string (bKey b)) (.agg #[.string b.nm, .slice A1 b.row.length c1, .int .i64 b.v.k, .int .i64 b.v.n, .string b.v.s, .slice A2 b.v.l.length c2, .bool b.asked])).run Tryz.prog w1 = .ok () w2 ∧ MapIs w2 W2.heap.size ((bKey b, .agg #[.string b.nm, .slice A1 b.row.length c1, .int .i64 b.v.k, .int .i64 b.v.n, .string b.v.s, .slice A2 b.v.l.length c2, .bool b.asked]) :: kv3) ∧ w1.grownBy w2 (some W2.heap.size) from fun w1 hb =>
        (HSI4.out.keep hb).m3m.put Tryz.underlying87 (by have h := HSI4.out.kb.len; rw [h, List.length_take]; have := HLEN.out; unfold maxLen; omega) (by have := HKY.out; unfold maxLen; omega) _)
      have zz : W4.cell? ⟨(W2.heap.size + 1 + 1), 2, none⟩ = some (.map (some W2.heap.size)) := HSI4.out.blk.cell 2
      have hgm : (W2.heap.size + 1 + 1) ≠ W2.heap.size := HSI4.out.ne.1
      have y0 : W4.cell? ⟨wr.heap.size, 0, none⟩ = some (.string b.nm) := B8.cell 0
      have y1 : W4.cell? ⟨wr.heap.size, 1, none⟩ = some (.slice A1 b.row.length c1) := B8.cell 1
      have y2 : W4.cell? ⟨wr.heap.size, 2, none⟩ = some (.int .i64 b.v.k) := B8.cell 2
      have y3 : W4.cell? ⟨wr.heap.size, 3, none⟩ = some (.int .i64 b.v.n) := B8.cell 3
      have y4 : W4.cell? ⟨wr.heap.size, 4, none⟩ = some (.string b.v.s) := B8.cell 4
      have y5 : W4.cell? ⟨wr.heap.size, 5, none⟩ = some (.slice A2 b.v.l.length c2) := B8.cell 5
      have y6 : W4.cell? ⟨wr.heap.size, 6, none⟩ = some (.bool b.asked) := B8.cell 6
      have hmw : W2.heap.size < wr.heap.size := HMW.out
      have HS := Lib.hid (show ∀ w', Below W4.heap.size W4 w' → w'.cell? ⟨(W2.heap.size + 1 + 1), 2, none⟩ = some (.map (some W2.heap.size)) ∧ w'.cell? ⟨wr.heap.size, 0, none⟩ = some (.string b.nm) ∧ w'.cell? ⟨wr.heap.size, 1, none⟩ = some (.slice A1 b.row.length c1) ∧ w'.cell? ⟨wr.heap.size, 2, none⟩ = some (.int .i64 b.v.k) ∧ w'.cell? ⟨wr.heap.size, 3, none⟩ = some (.int .i64 b.v.n) ∧ w'.cell? ⟨wr.heap.size, 4, none⟩ = some (.string b.v.s) ∧ w'.cell? ⟨wr.heap.size, 5, none⟩ = some (.slice A2 b.v.l.length c2) ∧ w'.cell? ⟨wr.heap.size, 6, none⟩ = some (.bool b.asked) from fun w' hb => ⟨Below.cell_of hb zz, Below.cell_of hb y0, Below.cell_of hb y1, Below.cell_of hb y2, Below.cell_of hb y3, Below.cell_of hb y4, Below.cell_of hb y5, Below.cell_of hb y6⟩)
      have HS2 := Lib.hid (show ∀ w1 w2, Below W4.heap.size W4 w1 → w1.grownBy w2 (some W2.heap.size) → w2.cell? ⟨(W2.heap.size + 1 + 1), 2, none⟩ = some (.map (some W2.heap.size)) ∧ w2.cell? ⟨wr.heap.size, 0, none⟩ = some (.string b.nm) ∧ w2.cell? ⟨wr.heap.size, 1, none⟩ = some (.slice A1 b.row.length c1) ∧ w2.cell? ⟨wr.heap.size, 2, none⟩ = some (.int .i64 b.v.k) ∧ w2.cell? ⟨wr.heap.size, 3, none⟩ = some (.int .i64 b.v.n) ∧ w2.cell? ⟨wr.heap.size, 4, none⟩ = some (.string b.v.s) ∧ w2.cell? ⟨wr.heap.size, 5, none⟩ = some (.slice A2 b.v.l.length c2) ∧ w2.cell? ⟨wr.heap.size, 6, none⟩ = some (.bool b.asked) from fun w1 w2 hb hg => by
        have hk := HS.out w1 hb
        have hlt8 := Nat.lt_of_lt_of_le B8.lt hb.size
        have hltg := Nat.lt_of_lt_of_le HSI4.out.blk.lt hb.size
        refine ⟨(hg.cell_far _ hltg (fun e => hgm (Option.some.inj e))).trans hk.1, (hg.cell_far _ hlt8 (fun e => (by have h : wr.heap.size = W2.heap.size := Option.some.inj e; omega))).trans hk.2.1, (hg.cell_far _ hlt8 (fun e => (by have h : wr.heap.size = W2.heap.size := Option.some.inj e; omega))).trans hk.2.2.1, (hg.cell_far _ hlt8 (fun e => (by have h : wr.heap.size = W2.heap.size := Option.some.inj e; omega))).trans hk.2.2.2.1, (hg.cell_far _ hlt8 (fun e => (by have h : wr.heap.size = W2.heap.size := Option.some.inj e; omega))).trans hk.2.2.2.2.1, (hg.cell_far _ hlt8 (fun e => (by have h : wr.heap.size = W2.heap.size := Option.some.inj e; omega))).trans hk.2.2.2.2.2.1, (hg.cell_far _ hlt8 (fun e => (by have h : wr.heap.size = W2.heap.size := Option.some.inj e; omega))).trans hk.2.2.2.2.2.2.1, (hg.cell_far _ hlt8 (fun e => (by have h : wr.heap.size = W2.heap.size := Option.some.inj e; omega))).trans hk.2.2.2.2.2.2.2⟩)
      have hq0 : Below W4.heap.size W4 W4 := Below.refl _ _
      clear zz y0 y1 y2 y3 y4 y5 y6
      go_upto_region 13 with (fail)
      go_region_held3 (fun w' => w'.cell? ⟨(W2.heap.size + 1 + 1), 2, none⟩ = some (.map (some W2.heap.size)) ∧ w'.cell? ⟨wr.heap.size, 0, none⟩ = some (.string b.nm) ∧ w'.cell? ⟨wr.heap.size, 1, none⟩ = some (.slice A1 b.row.length c1) ∧ w'.cell? ⟨wr.heap.size, 2, none⟩ = some (.int .i64 b.v.k) ∧ w'.cell? ⟨wr.heap.size, 3, none⟩ = some (.int .i64 b.v.n) ∧ w'.cell? ⟨wr.heap.size, 4, none⟩ = some (.string b.v.s) ∧ w'.cell? ⟨wr.heap.size, 5, none⟩ = some (.slice A2 b.v.l.length c2) ∧ w'.cell? ⟨wr.heap.size, 6, none⟩ = some (.bool b.asked))
        (first | exact HS.out _ hq0.drew | exact HS.out _ hq1 | exact HS2.out _ _ hq1 hg2 | exact HS2.out _ _ hq1 hg2)
        (first | (go_at_call 50; (with_reducible refine (K1.out _ hq0.drew).mono ?_); rintro e1 w1 ⟨rfl, hq1⟩; obtain ⟨w2, hrun, hm2, hg2⟩ := HPUT.out w1 hq1))
      all_goals
        have HB5 := Lib.hid (show Below B wr w1 from HB4.out.trans (hq1.mono hs4))
        have e1 : bounds.take k ++ [b] = bounds.take (k + 1) := by rw [List.take_succ_eq_append_getElem HLT.out, HBE.out]
        have HSI5 := Lib.hid (show SiAt w2 B (W2.heap.size + 1 + 1) (W.heap.size + 1) (W.heap.size + 1 + 1) W2.heap.size (W2.heap.size + 1) kv1 kv2 ((bKey b, .agg #[.string b.nm, .slice A1 b.row.length c1, .int .i64 b.v.k, .int .i64 b.v.n, .string b.v.s, .slice A2 b.v.l.length c2, .bool b.asked]) :: kv3) [] cells loops (bounds.take (k + 1)) [] from by
          have h := (HSI4.out.keep hq1).put3 hg2 (HBC.out.keep HB5.out) hm2
          rw [e1] at h
          exact h)
        have HB6 := Lib.hid ((C0.below hq1 C0.lt).grown hg2 (fun e => (by have h : w.heap.size = W2.heap.size := Option.some.inj e; have := hwW2; omega)))
        have hbw7 : Below w.heap.size w w2 := (hbw4.trans (hq1.mono hbw4.size)).grown hg2 (Nat.le_trans hbw4.size hq1.size) (fun g hg => (by have h : W2.heap.size = g := Option.some.inj hg; have := hwW2; omega))
        have HD7 := Lib.hid (HD.out.trans (HDD.out.trans (if_neg (fun h => h rfl))))
        clear e1 hq0 hq1 hm2 hg2 hrun HS HS2 K1 HPUT B8 C0 hmw hgm hkey ok1 ok2 ok3
        go_wp2_with fail
        go_roundw
        case rel => exact ⟨k + 1, _, HLT.out, by go_num, HSI5, HB6, HD7, hbw7⟩
        case measure =>
          have := HLT.out
          simp [intOf]
          omega
    · have hke : bounds.take k = bounds := List.take_of_length_le (by omega)
      have HE := Lib.hid (show firstF (boundF cells) [] bounds = 0 by rw [HD.out, List.drop_eq_nil_of_le (by omega)]; rfl)
      have HSI := Lib.hid (show SiAt wr B (W2.heap.size + 1 + 1) (W.heap.size + 1) (W.heap.size + 1 + 1) W2.heap.size (W2.heap.size + 1) kv1 kv2 kv3 [] cells loops bounds [] by have h := HSI.out; rwa [hke] at h)
      clear hke HD
      have HS1 := Lib.hid (show sceneF cells loops bounds rows = firstF (rowsF loops) [] rows by unfold sceneF; rw [HWF.out, if_neg (by decide), if_neg HLEN.out, HE.out, if_neg (by decide)])
      have hbw6 := hbr
      have skk : wr.cell? ⟨w.heap.size, 3, none⟩ = some (.slice AR rows.length cr) := C0.cell 3
      go_upto_region 15 with (fail)
      go_wp2_with fail
      clear skk C0 HMW
      go_loopw [69, 10, 11, 12] (fun i _ _ _ wr => ∃ (k : Nat) (kv4 : List (ByteArray × Value)), k ≤ rows.length ∧ i = .int .i64 k ∧ Hid (SiAt wr B (W2.heap.size + 1 + 1) (W.heap.size + 1) (W.heap.size + 1 + 1) W2.heap.size (W2.heap.size + 1) kv1 kv2 kv3 kv4 cells loops bounds (rows.take k)) ∧ Hid (Blk wr w.heap.size 33 #[.slice AC cells.length cc, .slice AN loops.length cn, .slice AB bounds.length cb, .slice AR rows.length cr]) ∧ Hid (firstF (rowsF loops) [] rows = firstF (rowsF loops) (rows.take k) (rows.drop k)) ∧ Below w.heap.size w wr) (fun i _ _ _ _ => rows.length - (intOf i).toNat)
      case atStart => exact ⟨0, [], Nat.zero_le _, rfl, HSI, HB0, Lib.hid rfl, hbw6⟩
      case round =>
        clear HSI HB0 hbw6
        obtain ⟨k, kv4, hk, rfl, HSI, HB0, HD, hbr⟩ := hrel
        have hsr := hbr.size
        have hBr := hbr.mono HL.out.2.2.2.2
        have C0 := HB0.out
        have HMW := Lib.hid HSI.out.m4m.lt
        have sk3 : wr.cell? ⟨w.heap.size, 3, none⟩ = some (.slice AR rows.length cr) := C0.cell 3
        by_cases hlt : k < rows.length
        · obtain ⟨ad, ci, had, hb, hci, hcell⟩ := (RAt.out.keep hBr).at_ hlt
          subst had
          obtain ⟨b, hbe⟩ : ∃ b, rows[k] = b := ⟨_, rfl⟩
          have HDD := Lib.hid (firstF_step (rowsF loops) rows k hlt)
          have HLAW := Lib.hid (fun w' (h1 : SiAt w' B (W2.heap.size + 1 + 1) (W.heap.size + 1) (W.heap.size + 1 + 1) W2.heap.size (W2.heap.size + 1) kv1 kv2 kv3 kv4 cells loops bounds (rows.take k)) (h2 : Below B w w') => rowsFault_any cells loops kv1 kv2 (W.heap.size + 1) (W.heap.size + 1 + 1) W2.heap.size (W2.heap.size + 1) (W2.heap.size + 1 + 1) B rows (some ad) cr k hlt w' h1.blk h1.ty (RAt.out.keep h2) h1.ne.2.2.2.2.2.2.2.2.2)
          rw [hbe] at hci HDD HLAW
          have HBE := Lib.hid hbe
          have hbc := hci
          obtain ⟨⟨A1, c1, A2, c2, rfl, hr1, hr2⟩, hx1, hx2, hx3⟩ := hci
          have HBC := Lib.hid hbc
          have HBX := Lib.hid (And.intro hr1 (And.intro hr2 hx3))
          have HLT := Lib.hid hlt
          have fc0 : wr.cell? (ad.add (k * 3)) = some (.string b.nm) := hcell 0 _ rfl
          have fc1 : wr.cell? ⟨(ad.add (k * 3)).block, (ad.add (k * 3)).off + 1, none⟩ = some (.slice A1 b.row.length c1) := hcell 1 _ rfl
          have fc2 : wr.cell? ⟨(ad.add (k * 3)).block, (ad.add (k * 3)).off + 2, none⟩ = some (.slice A2 b.nums.length c2) := hcell 2 _ rfl
          have hk0 : (0 : Int) ≤ (k : Nat) := by omega
          have hk1 : (k : Int) < (rows.length : Nat) := by omega
          clear hcell hbe hbc hr1 hr2 hx1 hx2 hx3  hb
          go_upto_region 18 with (fail)
          obtain ⟨W3, hW3⟩ : ∃ W3, W3 = wr.alloc (.cells #[.string b.nm, .slice A1 b.row.length c1, .slice A2 b.nums.length c2] 96 (0, 0)) := ⟨_, rfl⟩
          have hb3 : Below wr.heap.size wr W3 := hW3 ▸ (Below.refl _ wr).alloc (Nat.le_refl _) _
          have B8 : Blk W3 wr.heap.size 96 #[.string b.nm, .slice A1 b.row.length c1, .slice A2 b.nums.length c2] := hW3 ▸ Blk.new wr _ _
          rw [← hW3]
          clear hW3 fc0 fc1 fc2 sk3
          have C0 := C0.below hb3 C0.lt
          have sl3 : W3.cell? ⟨w.heap.size, 3, none⟩ = some (.slice (some ad) rows.length cr) := C0.cell 3
          have HSI3 := Lib.hid (HSI.out.keep hb3)
          have hbw3 := hbr.trans (hb3.mono hsr)
          obtain ⟨f1, hf1⟩ : ∃ f, rowsF loops (rows.take k) b = f := ⟨_, rfl⟩
          have HF1 := Lib.hid hf1
          have HLW := Lib.hid (HLAW.out W3 HSI3.out (hbw3.mono HL.out.2.2.2.2))
          rw [hf1] at HLW HDD
          clear hf1
          go_wp2_with fail
          refine HLW.out.mono ?_
          rintro en W4 ⟨rfl, hb4⟩
          have hbw4 := hbw3.trans (hb4.mono hbw3.size)
          have C0 := C0.below hb4 C0.lt
          have B8 := B8.below hb4 B8.lt
          have HSI4 := Lib.hid (HSI3.out.keep hb4)
          have HB4 := Lib.hid (show Below B wr W4 from (hb3.trans (hb4.mono hb3.size)).mono (Nat.le_trans HL.out.2.2.2.2 hsr))
          clear hb4 hb3 sl3 HLW HLAW HSI3 HSI
          by_cases h0 : f1 = 0
          rotate_left
          · have bg : (f1 != 0) = true := by simpa using h0
            have HK := Lib.hid (show sceneF cells loops bounds rows = f1 by rw [HS1.out, HD.out, HDD.out, if_pos h0])
            have H0 := Lib.hid h0
            clear h0 B8 C0
            go_wp2_with fail
            go_ret2
            exact SiR.bad (by rw [HK.out]; exact H0.out) (by rw [HK.out]; try rfl) hbw4
          subst h0
          obtain ⟨ok1, ok2, ok3⟩ := rows_ok HWK.out.2 HNL.out HF1.out
          have hkey : (rKey b).size ≤ 100000000 := by
            have h := rowKeyL_len b.nm.data.toList b.row ok3
            have h2 : b.nm.data.toList.length ≤ 16 := by simpa using ok1
            have h3 : (rKey b).size = (rowKeyL b.nm.data.toList b.row).length := by simp [rKey, ByteArray.size]
            omega
          have HKY := Lib.hid hkey
          have hB4 := hbw4.mono HL.out.2.2.2.2
          have hs4 := Nat.le_trans HL.out.2.2.2.2 hbw4.size
          have K1 := Lib.hid (show ∀ w', Below W4.heap.size W4 w' → Calls Tryz.prog 50 #[.string b.nm, .slice A1 b.row.length c1] w' fun en w'' => en = .returned (.string (rKey b)) ∧ Below W4.heap.size W4 w'' from fun w' hb =>
            (rowKey_any b.nm b.row A1 c1 B w' (by omega) ok2 ok3 (HBX.out.1.below ((Below.refl B wr).trans (show Below B wr w' from (show Below B wr W4 from HB4.out).trans (hb.mono hs4)))) (Nat.le_trans hs4 hb.size) (HTB.out.below (hbw4.trans (hb.mono hbw4.size)))).mono fun _ _ ⟨he, hk⟩ => ⟨he, hb.trans (hk.mono hb.size)⟩)
          have HPUT := Lib.hid (show ∀ w1, Below W4.heap.size W4 w1 → ∃ w2, (Instr.mapUpdate 88 (.map (some (W2.heap.size + 1))) (.string (rKey b)) (.slice A2 b.nums.length c2)).run Tryz.prog w1 = .ok () w2 ∧ MapIs w2 (W2.heap.size + 1) ((rKey b, .slice A2 b.nums.length c2) :: kv4) ∧ w1.grownBy w2 (some (W2.heap.size + 1)) from fun w1 hb =>
            (HSI4.out.keep hb).m4m.put Tryz.underlying88 (by have h := HSI4.out.kr.len; rw [h, List.length_take]; have := HLEN.out; unfold maxLen; omega) (by have := HKY.out; unfold maxLen; omega) _)
          have zz : W4.cell? ⟨(W2.heap.size + 1 + 1), 3, none⟩ = some (.map (some (W2.heap.size + 1))) := HSI4.out.blk.cell 3
          have hgm : (W2.heap.size + 1 + 1) ≠ (W2.heap.size + 1) := HSI4.out.ne.2.1
          have y0 : W4.cell? ⟨wr.heap.size, 0, none⟩ = some (.string b.nm) := B8.cell 0
          have y1 : W4.cell? ⟨wr.heap.size, 1, none⟩ = some (.slice A1 b.row.length c1) := B8.cell 1
          have y2 : W4.cell? ⟨wr.heap.size, 2, none⟩ = some (.slice A2 b.nums.length c2) := B8.cell 2
          have hmw : (W2.heap.size + 1) < wr.heap.size := HMW.out
          have HS := Lib.hid (show ∀ w', Below W4.heap.size W4 w' → w'.cell? ⟨(W2.heap.size + 1 + 1), 3, none⟩ = some (.map (some (W2.heap.size + 1))) ∧ w'.cell? ⟨wr.heap.size, 0, none⟩ = some (.string b.nm) ∧ w'.cell? ⟨wr.heap.size, 1, none⟩ = some (.slice A1 b.row.length c1) ∧ w'.cell? ⟨wr.heap.size, 2, none⟩ = some (.slice A2 b.nums.length c2) from fun w' hb => ⟨Below.cell_of hb zz, Below.cell_of hb y0, Below.cell_of hb y1, Below.cell_of hb y2⟩)
          have HS2 := Lib.hid (show ∀ w1 w2, Below W4.heap.size W4 w1 → w1.grownBy w2 (some (W2.heap.size + 1)) → w2.cell? ⟨(W2.heap.size + 1 + 1), 3, none⟩ = some (.map (some (W2.heap.size + 1))) ∧ w2.cell? ⟨wr.heap.size, 0, none⟩ = some (.string b.nm) ∧ w2.cell? ⟨wr.heap.size, 1, none⟩ = some (.slice A1 b.row.length c1) ∧ w2.cell? ⟨wr.heap.size, 2, none⟩ = some (.slice A2 b.nums.length c2) from fun w1 w2 hb hg => by
            have hk := HS.out w1 hb
            have hlt8 := Nat.lt_of_lt_of_le B8.lt hb.size
            have hltg := Nat.lt_of_lt_of_le HSI4.out.blk.lt hb.size
            refine ⟨(hg.cell_far _ hltg (fun e => hgm (Option.some.inj e))).trans hk.1, (hg.cell_far _ hlt8 (fun e => (by have h : wr.heap.size = (W2.heap.size + 1) := Option.some.inj e; omega))).trans hk.2.1, (hg.cell_far _ hlt8 (fun e => (by have h : wr.heap.size = (W2.heap.size + 1) := Option.some.inj e; omega))).trans hk.2.2.1, (hg.cell_far _ hlt8 (fun e => (by have h : wr.heap.size = (W2.heap.size + 1) := Option.some.inj e; omega))).trans hk.2.2.2⟩)
          have hq0 : Below W4.heap.size W4 W4 := Below.refl _ _
          clear zz y0 y1 y2
          go_upto_region 21 with (fail)
          go_region_held3 (fun w' => w'.cell? ⟨(W2.heap.size + 1 + 1), 3, none⟩ = some (.map (some (W2.heap.size + 1))) ∧ w'.cell? ⟨wr.heap.size, 0, none⟩ = some (.string b.nm) ∧ w'.cell? ⟨wr.heap.size, 1, none⟩ = some (.slice A1 b.row.length c1) ∧ w'.cell? ⟨wr.heap.size, 2, none⟩ = some (.slice A2 b.nums.length c2))
            (first | exact HS.out _ hq0.drew | exact HS.out _ hq1 | exact HS2.out _ _ hq1 hg2 | exact HS2.out _ _ hq1 hg2)
            (first | (go_at_call 50; (with_reducible refine (K1.out _ hq0.drew).mono ?_); rintro e1 w1 ⟨rfl, hq1⟩; obtain ⟨w2, hrun, hm2, hg2⟩ := HPUT.out w1 hq1))
          all_goals
            have HB5 := Lib.hid (show Below B wr w1 from HB4.out.trans (hq1.mono hs4))
            have e1 : rows.take k ++ [b] = rows.take (k + 1) := by rw [List.take_succ_eq_append_getElem HLT.out, HBE.out]
            have HSI5 := Lib.hid (show SiAt w2 B (W2.heap.size + 1 + 1) (W.heap.size + 1) (W.heap.size + 1 + 1) W2.heap.size (W2.heap.size + 1) kv1 kv2 kv3 ((rKey b, .slice A2 b.nums.length c2) :: kv4) cells loops bounds (rows.take (k + 1)) from by
              have h := (HSI4.out.keep hq1).put4 hg2 (HBX.out.2.1.below HB5.out) HBX.out.2.2 hm2
              rw [e1] at h
              exact h)
            have HB6 := Lib.hid ((C0.below hq1 C0.lt).grown hg2 (fun e => (by have h : w.heap.size = (W2.heap.size + 1) := Option.some.inj e; have := hwW2; omega)))
            have hbw7 : Below w.heap.size w w2 := (hbw4.trans (hq1.mono hbw4.size)).grown hg2 (Nat.le_trans hbw4.size hq1.size) (fun g hg => (by have h : (W2.heap.size + 1) = g := Option.some.inj hg; have := hwW2; omega))
            have HD7 := Lib.hid (HD.out.trans (HDD.out.trans (if_neg (fun h => h rfl))))
            clear e1 hq0 hq1 hm2 hg2 hrun HS HS2 K1 HPUT B8 C0 hmw hgm hkey ok1 ok2 ok3
            go_wp2_with fail
            go_roundw
            case rel => exact ⟨k + 1, _, HLT.out, by go_num, HSI5, HB6, HD7, hbw7⟩
            case measure =>
              have := HLT.out
              simp [intOf]
              omega
        · have hke : rows.take k = rows := List.take_of_length_le (by omega)
          have HE := Lib.hid (show firstF (rowsF loops) [] rows = 0 by rw [HD.out, List.drop_eq_nil_of_le (by omega)]; rfl)
          have HSI := Lib.hid (show SiAt wr B (W2.heap.size + 1 + 1) (W.heap.size + 1) (W.heap.size + 1 + 1) W2.heap.size (W2.heap.size + 1) kv1 kv2 kv3 kv4 cells loops bounds rows by have h := HSI.out; rwa [hke] at h)
          clear hke HD
          have HK := Lib.hid (show sceneF cells loops bounds rows = 0 by rw [HS1.out, HE.out])
          go_wp2_with fail
          go_ret2
          exact ⟨⟨some ⟨(W2.heap.size + 1 + 1), 0, none⟩, by rw [HK.out]; try rfl, fun _ => ⟨(W2.heap.size + 1 + 1), (W.heap.size + 1), (W.heap.size + 1 + 1), W2.heap.size, (W2.heap.size + 1), kv1, kv2, kv3, kv4, rfl, HSI.out, by omega, by omega, by omega⟩⟩, hbr⟩
end Go.Proofs.YtcmccjcelchlhaaGreatDoor
namespace Go.Proofs.YtcmccjcelchlhaaGreatDoor
open Go.RowKit
attribute [local go_sem ↓] Go.wp_at_zero Go.wp_at_succ

theorem check_k {v : Val} (h : checkV v = 0) : 0 ≤ v.k ∧ v.k ≤ 7 := by
  unfold checkV at h
  split at h
  · exact absurd h (by decide)
  · rename_i hr
    exact outB_no (Bool.not_eq_true _ ▸ hr)
set_option maxHeartbeats 4000000 in
set_option maxRecDepth 100000 in
theorem checkBound_any (cells : List CellD) (loops : List NestD) (bounds : List BoundD) (rows : List RowD) (AC AN AB AR : Option Addr) (cc cn cb cr i B : Nat) (hi : i < bounds.length) (w : World) (hC : CellsAt w B AC cells) (hN : NestsAt w B AN loops) (hL : BoundsAt w B AB bounds) (hB : B ≤ w.heap.size) :
    Calls Tryz.prog 23 #[.agg #[.slice AC cells.length cc, .slice AN loops.length cn, .slice AB bounds.length cb, .slice AR rows.length cr], .int .i64 (i : Nat)] w fun e w' => e = .returned (.int .i64 (boundF cells (bounds.take i) bounds[i])) ∧ Below w.heap.size w w' := by
  have HCN := Lib.hid (And.intro hC hN)
  have HL := Lib.hid (And.intro hL hB)
  have hll := hL.1
  have hcl := hC.1
  have hnl := hN.1
  unfold maxLen at hll hcl hnl
  obtain ⟨ad, ci, rfl, hb, hci, hcell⟩ := hL.at_ hi
  obtain ⟨b, hbe⟩ : ∃ b, bounds[i] = b := ⟨_, rfl⟩
  rw [hbe] at hci ⊢
  have HBE := Lib.hid hbe
  have HI := Lib.hid hi
  obtain ⟨⟨A1, c1, A2, c2, rfl, hr1, hr2⟩, hx1, hx2, hx3, hx4⟩ := hci
  have HBX := Lib.hid (And.intro hx1 (And.intro hx2 (And.intro hx3 (And.intro hx4 (And.intro hr1 hr2)))))
  have fc0 : w.cell? (ad.add (i * 7)) = some (.string b.nm) := hcell 0 _ rfl
  have fc1 : w.cell? ⟨(ad.add (i * 7)).block, (ad.add (i * 7)).off + 1, none⟩ = some (.slice A1 b.row.length c1) := hcell 1 _ rfl
  have fc2 : w.cell? ⟨(ad.add (i * 7)).block, (ad.add (i * 7)).off + 2, none⟩ = some (.int .i64 b.v.k) := hcell 2 _ rfl
  have fc3 : w.cell? ⟨(ad.add (i * 7)).block, (ad.add (i * 7)).off + 3, none⟩ = some (.int .i64 b.v.n) := hcell 3 _ rfl
  have fc4 : w.cell? ⟨(ad.add (i * 7)).block, (ad.add (i * 7)).off + 4, none⟩ = some (.string b.v.s) := hcell 4 _ rfl
  have fc5 : w.cell? ⟨(ad.add (i * 7)).block, (ad.add (i * 7)).off + 5, none⟩ = some (.slice A2 b.v.l.length c2) := hcell 5 _ rfl
  have fc6 : w.cell? ⟨(ad.add (i * 7)).block, (ad.add (i * 7)).off + 6, none⟩ = some (.bool b.asked) := hcell 6 _ rfl
  have HN := Lib.hid (idx_find (fun c : CellD => decide (c.nm = b.nm)) cells 0)
  have hi0 : (0 : Int) ≤ (i : Nat) := by omega
  have hi1 : (i : Int) < (bounds.length : Nat) := by omega
  clear hC hN hL hB hcell hbe hx1 hx2 hx3 hx4 hr1 hr2 hb
  go_enter Tryz.func23, Tryz.ntmps23
  go_upto_region 1 with (fail)
  obtain ⟨W, hW⟩ : ∃ W, W = (w.alloc (.cells #[.slice AC cells.length cc, .slice AN loops.length cn, .slice (some ad) bounds.length cb, .slice AR rows.length cr] 33 (0, 0))) := ⟨_, rfl⟩
  have hbw : Below w.heap.size w W := by rw [hW]; exact ((Below.refl _ w).alloc (Nat.le_refl _) _)
  have B0 : Blk W (w.heap.size) 33 #[.slice AC cells.length cc, .slice AN loops.length cn, .slice (some ad) bounds.length cb, .slice AR rows.length cr] := by
    rw [hW]
    have := Blk.new w 33 #[.slice AC cells.length cc, .slice AN loops.length cn, .slice (some ad) bounds.length cb, .slice AR rows.length cr]
    exact this
  have hsz : W.heap.size = w.heap.size + 1 := by rw [hW]; simp
  rw [← hW]
  have sc0 : W.cell? ⟨w.heap.size, 0, none⟩ = some (.slice AC cells.length cc) := B0.cell 0
  have sc1 : W.cell? ⟨w.heap.size, 1, none⟩ = some (.slice AN loops.length cn) := B0.cell 1
  have sc2 : W.cell? ⟨w.heap.size, 2, none⟩ = some (.slice (some ad) bounds.length cb) := B0.cell 2
  have sc3 : W.cell? ⟨w.heap.size, 3, none⟩ = some (.slice AR rows.length cr) := B0.cell 3
  have gc0 : W.cell? (ad.add (i * 7)) = some (.string b.nm) := Below.cell_of hbw fc0
  have gc1 : W.cell? ⟨(ad.add (i * 7)).block, (ad.add (i * 7)).off + 1, none⟩ = some (.slice A1 b.row.length c1) := Below.cell_of hbw fc1
  have gc2 : W.cell? ⟨(ad.add (i * 7)).block, (ad.add (i * 7)).off + 2, none⟩ = some (.int .i64 b.v.k) := Below.cell_of hbw fc2
  have gc3 : W.cell? ⟨(ad.add (i * 7)).block, (ad.add (i * 7)).off + 3, none⟩ = some (.int .i64 b.v.n) := Below.cell_of hbw fc3
  have gc4 : W.cell? ⟨(ad.add (i * 7)).block, (ad.add (i * 7)).off + 4, none⟩ = some (.string b.v.s) := Below.cell_of hbw fc4
  have gc5 : W.cell? ⟨(ad.add (i * 7)).block, (ad.add (i * 7)).off + 5, none⟩ = some (.slice A2 b.v.l.length c2) := Below.cell_of hbw fc5
  have gc6 : W.cell? ⟨(ad.add (i * 7)).block, (ad.add (i * 7)).off + 6, none⟩ = some (.bool b.asked) := Below.cell_of hbw fc6
  clear hW hsz fc0 fc1 fc2 fc3 fc4 fc5 fc6
  go_upto_region 2 with (fail)
  obtain ⟨W1, hW1⟩ : ∃ W1, W1 = W.alloc (.cells #[.string b.nm, .slice A1 b.row.length c1, .int .i64 b.v.k, .int .i64 b.v.n, .string b.v.s, .slice A2 b.v.l.length c2, .bool b.asked] 92 (0, 0)) := ⟨_, rfl⟩
  have hb1 : Below W.heap.size W W1 := hW1 ▸ (Below.refl _ W).alloc (Nat.le_refl _) _
  have hbw1 := hbw.trans (hb1.mono hbw.size)
  have B1 : Blk W1 W.heap.size 92 #[.string b.nm, .slice A1 b.row.length c1, .int .i64 b.v.k, .int .i64 b.v.n, .string b.v.s, .slice A2 b.v.l.length c2, .bool b.asked] := hW1 ▸ Blk.new W _ _
  have B0 := B0.below hb1 B0.lt
  rw [← hW1]
  clear hW1 hb1 sc0 sc1 sc2 sc3 gc0 gc1 gc2 gc3 gc4 gc5 gc6
  have sc0 : W1.cell? ⟨w.heap.size, 0, none⟩ = some (.slice AC cells.length cc) := B0.cell 0
  have sc1 : W1.cell? ⟨w.heap.size, 1, none⟩ = some (.slice AN loops.length cn) := B0.cell 1
  have sc2 : W1.cell? ⟨w.heap.size, 2, none⟩ = some (.slice (some ad) bounds.length cb) := B0.cell 2
  have sc3 : W1.cell? ⟨w.heap.size, 3, none⟩ = some (.slice AR rows.length cr) := B0.cell 3
  have xc0 : W1.cell? ⟨W.heap.size, 0, none⟩ = some (.string b.nm) := B1.cell 0
  have xc1 : W1.cell? ⟨W.heap.size, 1, none⟩ = some (.slice A1 b.row.length c1) := B1.cell 1
  have xc2 : W1.cell? ⟨W.heap.size, 2, none⟩ = some (.int .i64 b.v.k) := B1.cell 2
  have xc3 : W1.cell? ⟨W.heap.size, 3, none⟩ = some (.int .i64 b.v.n) := B1.cell 3
  have xc4 : W1.cell? ⟨W.heap.size, 4, none⟩ = some (.string b.v.s) := B1.cell 4
  have xc5 : W1.cell? ⟨W.heap.size, 5, none⟩ = some (.slice A2 b.v.l.length c2) := B1.cell 5
  have xc6 : W1.cell? ⟨W.heap.size, 6, none⟩ = some (.bool b.asked) := B1.cell 6
  have hs1 := Nat.le_trans HL.out.2 hbw1.size
  have hB1 : Below B w W1 := hbw1.mono HL.out.2
  have HIX := Lib.hid (cellAt_any cells AC cc B b.nm W1 (HCN.out.1.keep hB1) hs1)
  rcases HN.out with ⟨hf, hix⟩ | ⟨m, hm, hf, hix⟩
  · have hp : cellIdx cells b.nm = -1 := hix
    rw [hp] at HIX
    have HK := Lib.hid (show boundF cells (bounds.take i) b = 5 by unfold boundF; rw [hf])
    clear hf hix hp B0 B1
    go_wp2_with fail
    refine HIX.out.mono ?_
    rintro en W2 ⟨rfl, hb2⟩
    go_wp2_with fail
    go_ret
    exact ⟨ret_int (by rw [HK.out]), hbw1.trans (hb2.mono hbw1.size)⟩
  · obtain ⟨ad0, ci0, rfl, hb0, hci0, hcell0⟩ := (HCN.out.1.keep hB1).at_ hm
    have hp : cellIdx cells b.nm = (m : Nat) := by unfold cellIdx; rw [hix]; simp
    rw [hp] at HIX
    obtain ⟨d, hed⟩ : ∃ d, cells[m] = d := ⟨_, rfl⟩
    rw [hed] at hci0 hf
    have HF := Lib.hid hf
    have hm0 : (0 : Int) ≤ (m : Nat) := by omega
    have hm1 : (m : Int) < (cells.length : Nat) := by omega
    have hm2 : ¬ (m : Int) < 0 := by omega
    obtain ⟨⟨A', c', rfl, hdx, hdc⟩, hd1, hd2, hd3⟩ := hci0
    have HDX := Lib.hid hd2
    have mc0 : W1.cell? (ad0.add (m * 3)) = some (.string d.nm) := hcell0 0 _ rfl
    have mc1 : W1.cell? ⟨(ad0.add (m * 3)).block, (ad0.add (m * 3)).off + 1, none⟩ = some (.int .i64 d.kind) := hcell0 1 _ rfl
    have mc2 : W1.cell? ⟨(ad0.add (m * 3)).block, (ad0.add (m * 3)).off + 2, none⟩ = some (.slice A' d.loops.length c') := hcell0 2 _ rfl
    clear hdx hd2 hd3 hcell0 hed hf hix hp hd1 hb0
    go_wp2_with fail
    refine HIX.out.mono ?_
    rintro en W2 ⟨rfl, hb2⟩
    have hbw2 := hbw1.trans (hb2.mono hbw1.size)
    have hs2 := Nat.le_trans HL.out.2 hbw2.size
    have B0 := B0.below hb2 B0.lt
    have B1 := B1.below hb2 B1.lt
    clear sc0 sc1 sc2 sc3 xc0 xc1 xc2 xc3 xc4 xc5 xc6 HIX
    have nc0 : W2.cell? (ad0.add (m * 3)) = some (.string d.nm) := Below.cell_of hb2 mc0
    have nc1 : W2.cell? ⟨(ad0.add (m * 3)).block, (ad0.add (m * 3)).off + 1, none⟩ = some (.int .i64 d.kind) := Below.cell_of hb2 mc1
    have nc2 : W2.cell? ⟨(ad0.add (m * 3)).block, (ad0.add (m * 3)).off + 2, none⟩ = some (.slice A' d.loops.length c') := Below.cell_of hb2 mc2
    clear mc0 mc1 mc2 hb2
    obtain ⟨f1, hf1⟩ : ∃ f, rowF b.row d.loops.length = f := ⟨_, rfl⟩
    have HF1 := Lib.hid hf1
    have k1 : ∀ w', Below W2.heap.size W2 w' → Calls Tryz.prog 52 #[.slice A1 b.row.length c1, .slice A' d.loops.length c'] w' fun e w'' => e = .returned (.int .i64 f1) ∧ Below w'.heap.size w' w'' := fun w' hb' => by
      have h := checkRow_any b.row A' d.loops.length c' A1 c1 B w' HDX.out HBX.out.2.1 (HBX.out.2.2.2.2.1.below ((hbw2.mono HL.out.2).trans (hb'.mono hs2)))
      rw [hf1] at h
      exact h.mono fun _ _ ⟨he, hw⟩ => ⟨he, hw ▸ Below.refl _ _⟩
    have K1 := Lib.hid (Later.call k1)
    have q0 := Later.cell (show W2.cell? ⟨W.heap.size, 1, none⟩ = some (.slice A1 b.row.length c1) from B1.cell 1)
    have q1 := Later.cell nc2
    have q2 := Later.cell (show W2.cell? ⟨w.heap.size, 0, none⟩ = some (.slice (some ad0) cells.length cc) from B0.cell 0)
    clear k1 hf1
    go_upto_region 5 with (fail)
    refine wp_region_later (by kernel_rfl) (by kernel_rfl) ?_
    repeat (go_big_quiet_step (with_reducible exact K1.out _))
    refine wpQuiet_nil ?_
    intro W9 hw'
    have hb9 := later_h hw'
    clear hw'
    have hbw9 := hbw2.trans (hb9.mono hbw2.size)
    have hs9 := Nat.le_trans HL.out.2 hbw9.size
    have B0 := B0.below hb9 B0.lt
    have B1 := B1.below hb9 B1.lt
    have kc1 := Below.cell_of hb9 nc1
    clear q0 q1 q2 K1 nc0 nc1 nc2
    by_cases h0 : f1 = 0
    rotate_left
    · have bg : (f1 != 0) = true := by simpa using h0
      have HK := Lib.hid (show boundF cells (bounds.take i) b = f1 by unfold boundF; rw [HF.out]; show (if rowF b.row d.loops.length ≠ 0 then _ else _) = _; rw [HF1.out, if_pos h0])
      clear h0
      go_wp2_with fail
      go_ret
      exact ⟨ret_int (by rw [HK.out]), hbw9⟩
    subst h0
    obtain ⟨f2, hf2⟩ : ∃ f, checkV b.v = f := ⟨_, rfl⟩
    have HF2 := Lib.hid hf2
    have HCK := Lib.hid (rcheck_any b.v A2 c2 B W9 HBX.out.2.2.2.1 HBX.out.2.2.1 (HBX.out.2.2.2.2.2.below (hbw9.mono HL.out.2)) hs9)
    rw [hf2] at HCK
    have xc0 : W9.cell? ⟨W.heap.size, 0, none⟩ = some (.string b.nm) := B1.cell 0
    have xc1 : W9.cell? ⟨W.heap.size, 1, none⟩ = some (.slice A1 b.row.length c1) := B1.cell 1
    have xc2 : W9.cell? ⟨W.heap.size, 2, none⟩ = some (.int .i64 b.v.k) := B1.cell 2
    have xc3 : W9.cell? ⟨W.heap.size, 3, none⟩ = some (.int .i64 b.v.n) := B1.cell 3
    have xc4 : W9.cell? ⟨W.heap.size, 4, none⟩ = some (.string b.v.s) := B1.cell 4
    have xc5 : W9.cell? ⟨W.heap.size, 5, none⟩ = some (.slice A2 b.v.l.length c2) := B1.cell 5
    have xc6 : W9.cell? ⟨W.heap.size, 6, none⟩ = some (.bool b.asked) := B1.cell 6
    clear hf2
    go_wp2_with fail
    refine HCK.out.mono ?_
    rintro en W3 ⟨rfl, hb3⟩
    have hbw3 := hbw9.trans (hb3.mono hbw9.size)
    have B0 := B0.below hb3 B0.lt
    have B1 := B1.below hb3 B1.lt
    have kd1 := Below.cell_of hb3 kc1
    clear HCK xc0 xc1 xc2 xc3 xc4 xc5 xc6 kc1 hb3
    by_cases h0 : f2 = 0
    rotate_left
    · have bg : (f2 != 0) = true := by simpa using h0
      have HK := Lib.hid (show boundF cells (bounds.take i) b = f2 by unfold boundF; rw [HF.out]; show (if rowF b.row d.loops.length ≠ 0 then _ else _) = _; rw [HF1.out, if_neg (by decide), HF2.out, if_pos h0])
      clear h0
      go_wp2_with fail
      go_ret
      exact ⟨ret_int (by rw [HK.out]), hbw3⟩
    subst h0
    have HKK := Lib.hid (check_k HF2.out)
    have HQ1 := Lib.hid (show boundF cells (bounds.take i) b = if 1 < b.v.k ∧ b.v.k ≠ d.kind then 8 else (match (bounds.take i).getLast? with | none => 0 | some p => followF b.nm b.row p.nm p.row) by unfold boundF; rw [HF.out]; show (if rowF b.row d.loops.length ≠ 0 then _ else _) = _; rw [HF1.out, if_neg (by decide), HF2.out, if_neg (by decide)]; rfl)
    have r0 := Later.cell (show W3.cell? ⟨W.heap.size, 2, none⟩ = some (.int .i64 b.v.k) from B1.cell 2)
    have r1 := Later.cell (show W3.cell? ⟨w.heap.size, 0, none⟩ = some (.slice (some ad0) cells.length cc) from B0.cell 0)
    have r2 := Later.cell kd1
    obtain ⟨z1, hz1⟩ : ∃ z, (b.v.k != 0) = z := ⟨_, rfl⟩
    obtain ⟨z2, hz2⟩ : ∃ z, (b.v.k != 1) = z := ⟨_, rfl⟩
    obtain ⟨z3, hz3⟩ : ∃ z, (b.v.k != d.kind) = z := ⟨_, rfl⟩
    have HZ := Lib.hid (And.intro hz1 (And.intro hz2 hz3))
    go_upto_region 11 with (fail)
    cases z1 <;> cases z2 <;> cases z3
    case true.true.true =>
      refine wp_region_later (by kernel_rfl) (by kernel_rfl) ?_
      repeat (go_big_quiet_step (fail))
      refine wpQuiet_nil ?_
      intro W4 hw'
      have hb4 := later_h hw'
      clear hw' r0 r1 r2 hz1 hz2 hz3
      have hbw4 := hbw3.trans (hb4.mono hbw3.size)
      have B0 := B0.below hb4 B0.lt
      have B1 := B1.below hb4 B1.lt
      have HK := Lib.hid (show boundF cells (bounds.take i) b = 8 by rw [HQ1.out, if_pos (by have h1 := HZ.out.1; have h2 := HZ.out.2.1; have h3 := HZ.out.2.2; have h4 := HKK.out; simp at h1 h2 h3; exact ⟨by omega, h3⟩)])
      go_wp2_with fail
      go_ret
      exact ⟨ret_int (by rw [HK.out]), hbw4⟩
    all_goals
      refine wp_region_later (by kernel_rfl) (by kernel_rfl) ?_
      repeat (go_big_quiet_step (fail))
      refine wpQuiet_nil ?_
      intro W4 hw'
      have hb4 := later_h hw'
      clear hw' r0 r1 r2 hz1 hz2 hz3
      have hbw4 := hbw3.trans (hb4.mono hbw3.size)
      have B0 := B0.below hb4 B0.lt
      have B1 := B1.below hb4 B1.lt
      have HQ := Lib.hid (show boundF cells (bounds.take i) b = (match (bounds.take i).getLast? with | none => 0 | some p => followF b.nm b.row p.nm p.row) by rw [HQ1.out, if_neg (by have h1 := HZ.out.1; have h2 := HZ.out.2.1; have h3 := HZ.out.2.2; have h4 := HKK.out; simp at h1 h2 h3; intro h; omega)])
      by_cases h0 : i = 0
      · have bg : ((i : Int) == 0) = true := by simp; omega
        have HK := Lib.hid (show boundF cells (bounds.take i) b = 0 by rw [HQ.out, h0]; rfl)
        clear h0
        go_wp2_with fail
        go_ret
        exact ⟨ret_int (by rw [HK.out]), hbw4⟩
      · have bg : ((i : Int) == 0) = false := by simp; omega
        have hp1 : i - 1 < bounds.length := by omega
        obtain ⟨ad2, pi, had2, -, hpi, hpcell⟩ := (HL.out.1.keep (hbw4.mono HL.out.2)).at_ hp1
        injection had2 with had2
        subst had2
        obtain ⟨p, hpe⟩ : ∃ p, bounds[i - 1] = p := ⟨_, rfl⟩
        rw [hpe] at hpi
        have HK := Lib.hid (show boundF cells (bounds.take i) b = followF b.nm b.row p.nm p.row by
          rw [HQ.out, show (bounds.take i).getLast? = some p by rw [List.getLast?_eq_getElem?, List.getElem?_take, List.length_take, if_pos (by omega), show min i bounds.length - 1 = i - 1 by omega, List.getElem?_eq_getElem hp1, hpe]])
        obtain ⟨⟨A5, c5, A6, c6, rfl, hpr1, hpr2⟩, hp2, hp3, hp4, hp5⟩ := hpi
        have pc0 : W4.cell? (ad.add ((i - 1) * 7)) = some (.string p.nm) := hpcell 0 _ rfl
        have pc1 : W4.cell? ⟨(ad.add ((i - 1) * 7)).block, (ad.add ((i - 1) * 7)).off + 1, none⟩ = some (.slice A5 p.row.length c5) := hpcell 1 _ rfl
        have i0 : IntKind.i64.wrap ((i : Int) - 1) = (i : Int) - 1 := IntWalk.i64_in _ (by omega)
        have i1 : ((i : Int) - 1).toNat = i - 1 := by omega
        have i2 : (0 : Int) ≤ (i : Int) - 1 := by omega
        have i3 : (i : Int) - 1 < (bounds.length : Nat) := by omega
        have k1 : ∀ w', Below W4.heap.size W4 w' → Calls Tryz.prog 54 #[.string b.nm, .slice A1 b.row.length c1, .string p.nm, .slice A5 p.row.length c5] w' fun e w'' => e = .returned (.int .i64 (followF b.nm b.row p.nm p.row)) ∧ Below w'.heap.size w' w'' := fun w' hb' =>
          behind_any b.nm p.nm b.row p.row A1 A5 c1 c5 B w' HBX.out.2.1 hp3 (HBX.out.2.2.2.2.1.below ((hbw4.mono HL.out.2).trans (hb'.mono (Nat.le_trans HL.out.2 hbw4.size)))) (hpr1.below (hb'.mono (Nat.le_trans HL.out.2 hbw4.size))) (Nat.le_trans (Nat.le_trans HL.out.2 hbw4.size) hb'.size)
        have K1 := Lib.hid (Later.call k1)
        have q0 := Later.cell pc0
        have q1 := Later.cell pc1
        have q2 := Later.cell (show W4.cell? ⟨W.heap.size, 0, none⟩ = some (.string b.nm) from B1.cell 0)
        have q3 := Later.cell (show W4.cell? ⟨W.heap.size, 1, none⟩ = some (.slice A1 b.row.length c1) from B1.cell 1)
        have q4 := Later.cell (show W4.cell? ⟨w.heap.size, 2, none⟩ = some (.slice (some ad) bounds.length cb) from B0.cell 2)
        clear k1 hpcell hpe hpr1 hpr2 hp2 hp3 hp4 hp5 h0 hp1 pc0 pc1
        go_upto_region 15 with (fail)
        refine wp_region_later (by kernel_rfl) (by kernel_rfl) ?_
        repeat (go_big_quiet_step (with_reducible exact K1.out _))
        refine wpQuiet_nil ?_
        intro W9 hw'
        have hb9 := later_h hw'
        clear hw'
        go_wp2_with fail
        go_ret
        exact ⟨ret_int (by rw [HK.out]), hbw4.trans (hb9.mono hbw4.size)⟩
end Go.Proofs.YtcmccjcelchlhaaGreatDoor
