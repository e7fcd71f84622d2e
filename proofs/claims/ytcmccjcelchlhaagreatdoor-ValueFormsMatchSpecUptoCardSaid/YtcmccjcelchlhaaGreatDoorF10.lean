/- The walk of the program's Names: Walk with the closure that appends to a captured variable. · The walks of binary, negated, text. · The walks of the reference's row, inside, list. -/
import Derived.Test.YtcmccjcelchlhaaGreatDoorF9
import Derived.Deep.DrawnRows
import Derived.Deep.RegionHeld3
import Derived.Test.YtcmccjcelchlhaaGreatDoorF1
import Derived.Test.YtcmccjcelchlhaaGreatDoorF3
namespace Go.Proofs.YtcmccjcelchlhaaGreatDoor
open Go.RowKit Go.Lib
attribute [local go_sem ↓] Go.wp_at_zero Go.wp_at_succ

/-- the captured variable holds an own row of texts -/
structure OutIs (B bo : Nat) (l : List (List UInt8)) (w : World) : Prop where
  h : ∃ v n, Blk w bo 34 #[v] ∧ w.ownsRow (bo + 1) 9 1 v n (txV l)
theorem own_slice {w : World} {B n : Nat} {T : TypeId} {size : Nat} {v : Value} {xs : List Value} (h : w.ownsRow B T size v n xs) : ∃ A k c, v = .slice A k c := by
  rcases h.2 with ⟨rfl, _⟩ | ⟨g, c, cur, rfl, _⟩
  · exact ⟨_, _, _, rfl⟩
  · exact ⟨_, _, _, rfl⟩
theorem OutIs.alloc {B bo : Nat} {l : List (List UInt8)} {w : World} (h : OutIs B bo l w) (o : Obj) : OutIs B bo l (w.alloc o) := by
  obtain ⟨v, n, hb, ho⟩ := h.h
  exact ⟨v, n, hb.alloc o, ho.alloc o⟩
/-- what is below B stays, and the boxes of expressions stay -/
structure Fr (B : Nat) (w w' : World) : Prop where
  b : Below B w w'
  x : ∀ k cs, Blk w k 27 cs → Blk w' k 27 cs
theorem Fr.trans {B : Nat} {w w1 w2 : World} (h : Fr B w w1) (h' : Fr B w1 w2) : Fr B w w2 := ⟨h.b.trans h'.b, fun k cs hk => h'.x k cs (h.x k cs hk)⟩
theorem Fr.of {B : Nat} {w w' : World} (hb : Below w.heap.size w w') (hB : B ≤ w.heap.size) : Fr B w w' := ⟨hb.mono hB, fun _ _ hk => hk.below hb hk.lt⟩
set_option maxHeartbeats 2000000 in
set_option maxRecDepth 100000 in
theorem clos_any (e : Ex) (l : List (List UInt8)) (B bo : Nat) (cs : List Value) (w : World) (hx : ExAt w B e cs) (hB : B ≤ w.heap.size) (hbo : B ≤ bo) (ho : OutIs B bo l w) (hl : l.length ≤ 1000000) :
    Calls Tryz.prog 32 #[.agg cs.toArray, .pointer (some ⟨bo, 0, none⟩)] w fun en w' => en = .returned (.tuple #[]) ∧ OutIs B bo (l ++ nameOf e.k e.nm) w' ∧ Fr B w w' := by
  obtain ⟨i0, hi0, hz0, hz1, hz2⟩ := info_parts infoStr
  obtain ⟨v, n, hbv, hov⟩ := ho.h
  have hnn : n ≤ 1000000 := by
    have h := hov.1
    rw [txV_len, Nat.mul_one] at h
    omega
  obtain ⟨hn, hs, hl1, ha, hx, hr, hi⟩ := hx
  rename_i A1 c1 A2 c2 cs
  have hlo := hbv.lt
  have HBV := Lib.hid hbv
  have HOV := Lib.hid hov
  clear hx hr hi ho hbv hov hl
  show Calls Tryz.prog 32 #[.agg #[.int .i64 e.k, .int .i64 e.op, .string e.nm, .int .i64 e.v.k, .int .i64 e.v.n, .string e.v.s, .slice A1 e.v.l.length c1, .slice A2 e.ar.length c2], .pointer (some ⟨bo, 0, none⟩)] w _
  by_cases k2 : e.k = 2
  · have HRE := Lib.hid (show nameOf e.k e.nm = [e.nm.data.toList] by unfold nameOf; rw [if_pos k2])
    have bk : (e.k == 2) = true := by simp [k2]
    clear k2
    go_enter Tryz.func32, Tryz.ntmps32
    go_upto_region 1 with (fail)
    obtain ⟨W, hW⟩ : ∃ W, W = (w.alloc (.cells #[.int .i64 e.k, .int .i64 e.op, .string e.nm, .int .i64 e.v.k, .int .i64 e.v.n, .string e.v.s, .slice A1 e.v.l.length c1, .slice A2 e.ar.length c2] 27 (0, 0))) := ⟨_, rfl⟩
    have hbw : Below w.heap.size w W := by rw [hW]; exact ((Below.refl _ w).alloc (Nat.le_refl _) _)
    have B0 : Blk W (w.heap.size) 27 #[.int .i64 e.k, .int .i64 e.op, .string e.nm, .int .i64 e.v.k, .int .i64 e.v.n, .string e.v.s, .slice A1 e.v.l.length c1, .slice A2 e.ar.length c2] := by
      rw [hW]
      have := Blk.new w 27 #[.int .i64 e.k, .int .i64 e.op, .string e.nm, .int .i64 e.v.k, .int .i64 e.v.n, .string e.v.s, .slice A1 e.v.l.length c1, .slice A2 e.ar.length c2]
      exact this
    have hsz : W.heap.size = w.heap.size + 1 := by rw [hW]; simp
    have BV := HBV.out.alloc (.cells #[.int .i64 e.k, .int .i64 e.op, .string e.nm, .int .i64 e.v.k, .int .i64 e.v.n, .string e.v.s, .slice A1 e.v.l.length c1, .slice A2 e.ar.length c2] 27 (0, 0))
    have OV := HOV.out.alloc (.cells #[.int .i64 e.k, .int .i64 e.op, .string e.nm, .int .i64 e.v.k, .int .i64 e.v.n, .string e.v.s, .slice A1 e.v.l.length c1, .slice A2 e.ar.length c2] 27 (0, 0))
    rw [← hW]
    rw [← hW] at BV OV
    have ec0 : W.cell? ⟨w.heap.size, 0, none⟩ = some (.int .i64 e.k) := B0.cell 0
    have ec1 : W.cell? ⟨w.heap.size, 1, none⟩ = some (.int .i64 e.op) := B0.cell 1
    have ec2 : W.cell? ⟨w.heap.size, 2, none⟩ = some (.string e.nm) := B0.cell 2
    have ec3 : W.cell? ⟨w.heap.size, 3, none⟩ = some (.int .i64 e.v.k) := B0.cell 3
    have ec4 : W.cell? ⟨w.heap.size, 4, none⟩ = some (.int .i64 e.v.n) := B0.cell 4
    have ec5 : W.cell? ⟨w.heap.size, 5, none⟩ = some (.string e.v.s) := B0.cell 5
    have ec6 : W.cell? ⟨w.heap.size, 6, none⟩ = some (.slice A1 e.v.l.length c1) := B0.cell 6
    have ec7 : W.cell? ⟨w.heap.size, 7, none⟩ = some (.slice A2 e.ar.length c2) := B0.cell 7
    have oc : W.cell? ⟨bo, 0, none⟩ = some v := BV.cell 0
    clear hW hsz
    have hsW := hbw.size
    obtain ⟨xs, hxs⟩ : ∃ xs : List Value, txV l = xs := ⟨_, rfl⟩
    have HXS := Lib.hid hxs
    rw [hxs] at OV
    clear hxs
    go_wp2_with (at_builtin; refine wpList_append_own _ rfl _ _ 34 rfl (bo + 1) 9 i0 (.string ByteArray.empty) 1 16 Tryz.underlying34 hi0 hz0 hz1 hz2 rfl (by decide) _ _ _ rfl (OV.alloc _) ⟨W.heap.size, 0, none⟩ 1 1 [.string e.nm] rfl rfl ?c1 ?c2 ?c3 ?c4 ?c5 ?_)
    case c1 => intro j u hj; cases j <;> simp_all [go_sem]
    case c2 => intro u hu; simp only [List.mem_singleton] at hu; subst hu; rfl
    case c3 => unfold maxLen; omega
    case c4 => omega
    case c5 => (simp; omega)
    intro v2 w2 hown2 hg2 _
    obtain ⟨A9, k9, c9, rfl⟩ := own_slice hown2
    have hne : v.ownBlock ≠ some bo := own_blk_ne OV BV (by decide)
    have hb2 : Below B W w2 := ((Below.refl B W).alloc (by omega) _).grown hg2 (by simp; omega) (fun g hg => by have := (OV.lt g hg).1; omega)
    have BV2 : Blk w2 bo 34 #[v] := (BV.alloc _).grown hg2 (fun e => hne e.symm)
    have hf2 : Fr B W w2 := ⟨hb2, fun k cs hk => (hk.alloc _).grown hg2 (fun e => own_blk_ne OV hk (by decide) e.symm)⟩
    have HF2 := Lib.hid ((Fr.of hbw hB).trans hf2)
    have hr2 := (hbw.mono hB).trans hb2
    have hne2 : (Value.slice A9 k9 c9).ownBlock ≠ some bo := own_blk_ne hown2 BV2 (by decide)
    have HO2 := Lib.hid hown2
    clear hown2 hg2 ec0 ec1 ec2 ec3 ec4 ec5 ec6 ec7 oc OV BV
    have oc : w2.cell? ⟨bo, 0, none⟩ = some v := BV2.cell 0
    have oz : w2.frozen? ⟨bo, 0, none⟩ = false := BV2.frozen 0
    have HB2 := Lib.hid BV2
    have HNE := Lib.hid hne2
    clear BV2 hne hne2 B0
    go_wp2_with fail
    go_end0
    refine ⟨rfl, ⟨.slice A9 k9 c9, n + 1, ?_, ?_⟩, ⟨HF2.out.b.setCell (by show B ≤ bo; exact hbo) _, fun k cs hk => (HF2.out.x k cs hk).far (by show k ≠ bo; exact Blk.ne_ (HF2.out.x k cs hk) HB2.out (by decide)) _⟩⟩
    · simpa using HB2.out.set_ 0 (.slice A9 k9 c9)
    · rw [HRE.out, show ∀ p q : List (List UInt8), txV (p ++ q) = txV p ++ txV q from fun p q => List.map_append, HXS.out]
      exact ownsRow_setCell_other HO2.out (by show _ ≠ some bo; exact HNE.out) _
  · have HRE := Lib.hid (show nameOf e.k e.nm = [] by unfold nameOf; rw [if_neg k2])
    have bk : (e.k == 2) = false := by simp [k2]
    clear k2
    go_enter Tryz.func32, Tryz.ntmps32
    go_upto_region 1 with (fail)
    obtain ⟨W, hW⟩ : ∃ W, W = (w.alloc (.cells #[.int .i64 e.k, .int .i64 e.op, .string e.nm, .int .i64 e.v.k, .int .i64 e.v.n, .string e.v.s, .slice A1 e.v.l.length c1, .slice A2 e.ar.length c2] 27 (0, 0))) := ⟨_, rfl⟩
    have hbw : Below w.heap.size w W := by rw [hW]; exact ((Below.refl _ w).alloc (Nat.le_refl _) _)
    have B0 : Blk W (w.heap.size) 27 #[.int .i64 e.k, .int .i64 e.op, .string e.nm, .int .i64 e.v.k, .int .i64 e.v.n, .string e.v.s, .slice A1 e.v.l.length c1, .slice A2 e.ar.length c2] := by
      rw [hW]
      have := Blk.new w 27 #[.int .i64 e.k, .int .i64 e.op, .string e.nm, .int .i64 e.v.k, .int .i64 e.v.n, .string e.v.s, .slice A1 e.v.l.length c1, .slice A2 e.ar.length c2]
      exact this
    have hsz : W.heap.size = w.heap.size + 1 := by rw [hW]; simp
    have BV := HBV.out.alloc (.cells #[.int .i64 e.k, .int .i64 e.op, .string e.nm, .int .i64 e.v.k, .int .i64 e.v.n, .string e.v.s, .slice A1 e.v.l.length c1, .slice A2 e.ar.length c2] 27 (0, 0))
    have OV := HOV.out.alloc (.cells #[.int .i64 e.k, .int .i64 e.op, .string e.nm, .int .i64 e.v.k, .int .i64 e.v.n, .string e.v.s, .slice A1 e.v.l.length c1, .slice A2 e.ar.length c2] 27 (0, 0))
    rw [← hW]
    rw [← hW] at BV OV
    have ec0 : W.cell? ⟨w.heap.size, 0, none⟩ = some (.int .i64 e.k) := B0.cell 0
    have ec1 : W.cell? ⟨w.heap.size, 1, none⟩ = some (.int .i64 e.op) := B0.cell 1
    have ec2 : W.cell? ⟨w.heap.size, 2, none⟩ = some (.string e.nm) := B0.cell 2
    have ec3 : W.cell? ⟨w.heap.size, 3, none⟩ = some (.int .i64 e.v.k) := B0.cell 3
    have ec4 : W.cell? ⟨w.heap.size, 4, none⟩ = some (.int .i64 e.v.n) := B0.cell 4
    have ec5 : W.cell? ⟨w.heap.size, 5, none⟩ = some (.string e.v.s) := B0.cell 5
    have ec6 : W.cell? ⟨w.heap.size, 6, none⟩ = some (.slice A1 e.v.l.length c1) := B0.cell 6
    have ec7 : W.cell? ⟨w.heap.size, 7, none⟩ = some (.slice A2 e.ar.length c2) := B0.cell 7
    clear hW hsz
    have HB2 := Lib.hid BV
    have HO2 := Lib.hid OV
    clear BV OV B0
    go_wp2_with fail
    go_end0
    exact ⟨rfl, ⟨v, n, HB2.out, by rw [HRE.out, List.append_nil]; exact HO2.out⟩, Fr.of hbw hB⟩
theorem namesL_snoc : ∀ (ar : List Ex) (a : Ex), namesL (ar ++ [a]) = namesL ar ++ a.names
  | [], a => by simp [namesL]
  | b :: r, a => by rw [List.cons_append, namesL, namesL_snoc r a, namesL, List.append_assoc]
theorem namesL_len : ∀ ar : List Ex, (namesL ar).length ≤ partsL ar
  | [] => Nat.le_refl _
  | a :: r => by
    rw [namesL, partsL, List.length_append]
    have := names_len a
    have := namesL_len r
    omega
set_option maxHeartbeats 4000000 in
set_option maxRecDepth 100000 in
theorem walk_any (B bo : Nat) (hbo : B ≤ bo) (e : Ex) : ∀ (l : List (List UInt8)) (cs : List Value) (w : World), ExAt w B e cs → B ≤ w.heap.size → OutIs B bo l w → l.length + e.parts ≤ 1000000 →
    Calls Tryz.prog 31 #[.agg cs.toArray, .func (.func 32) #[] #[.pointer (some ⟨bo, 0, none⟩)]] w fun en w' => en = .returned (.tuple #[]) ∧ OutIs B bo (l ++ e.names) w' ∧ Fr B w w' := by
  induction e using Ex.ind with
  | h e ih =>
    intro l cs w hx hB ho hp
    have hpe := parts_eq e
    have HNM := Lib.hid (names_eq e)
    have hal : e.ar.length ≤ 1000000 := by have := len_parts e.ar; omega
    have HP := Lib.hid hp
    have HPE := Lib.hid hpe
    have HI := Lib.hid ih
    have HX := Lib.hid hx
    have HO := Lib.hid ho
    obtain ⟨hn, hs, hl, ha, hx, hr, hi⟩ := hx
    rename_i A1 c1 A2 c2 cs
    have HR := Lib.hid (And.intro hr hi)
    clear hx hr hi ih hpe hp ho
    generalize e.names = R at HNM ⊢
    show Calls Tryz.prog 31 #[.agg #[.int .i64 e.k, .int .i64 e.op, .string e.nm, .int .i64 e.v.k, .int .i64 e.v.n, .string e.v.s, .slice A1 e.v.l.length c1, .slice A2 e.ar.length c2], .func (.func 32) #[] #[.pointer (some ⟨bo, 0, none⟩)]] w _
    go_enter Tryz.func31, Tryz.ntmps31
    go_upto_region 1 with (fail)
    obtain ⟨W, hW⟩ : ∃ W, W = (w.alloc (.cells #[.int .i64 e.k, .int .i64 e.op, .string e.nm, .int .i64 e.v.k, .int .i64 e.v.n, .string e.v.s, .slice A1 e.v.l.length c1, .slice A2 e.ar.length c2] 27 (0, 0))) := ⟨_, rfl⟩
    have hbw : Below w.heap.size w W := by rw [hW]; exact ((Below.refl _ w).alloc (Nat.le_refl _) _)
    have B0 : Blk W (w.heap.size) 27 #[.int .i64 e.k, .int .i64 e.op, .string e.nm, .int .i64 e.v.k, .int .i64 e.v.n, .string e.v.s, .slice A1 e.v.l.length c1, .slice A2 e.ar.length c2] := by
      rw [hW]
      have := Blk.new w 27 #[.int .i64 e.k, .int .i64 e.op, .string e.nm, .int .i64 e.v.k, .int .i64 e.v.n, .string e.v.s, .slice A1 e.v.l.length c1, .slice A2 e.ar.length c2]
      exact this
    have hsz : W.heap.size = w.heap.size + 1 := by rw [hW]; simp
    have OW : OutIs B bo l W := by rw [hW]; exact HO.out.alloc _
    rw [← hW]
    have ec0 : W.cell? ⟨w.heap.size, 0, none⟩ = some (.int .i64 e.k) := B0.cell 0
    have ec1 : W.cell? ⟨w.heap.size, 1, none⟩ = some (.int .i64 e.op) := B0.cell 1
    have ec2 : W.cell? ⟨w.heap.size, 2, none⟩ = some (.string e.nm) := B0.cell 2
    have ec3 : W.cell? ⟨w.heap.size, 3, none⟩ = some (.int .i64 e.v.k) := B0.cell 3
    have ec4 : W.cell? ⟨w.heap.size, 4, none⟩ = some (.int .i64 e.v.n) := B0.cell 4
    have ec5 : W.cell? ⟨w.heap.size, 5, none⟩ = some (.string e.v.s) := B0.cell 5
    have ec6 : W.cell? ⟨w.heap.size, 6, none⟩ = some (.slice A1 e.v.l.length c1) := B0.cell 6
    have ec7 : W.cell? ⟨w.heap.size, 7, none⟩ = some (.slice A2 e.ar.length c2) := B0.cell 7
    clear hW hsz
    have hsW := hbw.size
    have HOW := Lib.hid OW
    clear OW
    have HXW := Lib.hid (HX.out.keep (hbw.mono hB))
    go_wp2_with (go_at_call 32; refine (clos_any e l B bo _ W HXW.out (by omega) hbo HOW.out (by have := HP.out; omega)).mono ?_; rintro en w1 ⟨rfl, ho1, hf1⟩; have HO1 := Lib.hid ho1; have HF1 := Lib.hid ((Fr.of hbw hB).trans hf1); have B1 := hf1.x _ _ B0; clear ho1 hf1 ec0 ec1 ec2 ec3 ec4 ec5 ec6 ec7; have ec0 := B1.cell 0; have ec7 := B1.cell 7)
    go_loopw [12] (fun i wr => ∃ (k : Nat), k ≤ e.ar.length ∧ i = .int .i64 k ∧ Hid (OutIs B bo (l ++ nameOf e.k e.nm ++ namesL (e.ar.take k)) wr) ∧ Hid (Fr B w wr)) (fun i _ => e.ar.length - (intOf i).toNat)
    case atStart => exact ⟨0, Nat.zero_le _, rfl, by simpa [namesL] using HO1, HF1⟩
    case round =>
      obtain ⟨k, hk, rfl, HO, HF⟩ := hrel
      have hbr := HF.out.b
      have hsr := hbr.size
      by_cases hlt : k < e.ar.length
      · obtain ⟨ad, ci, rfl, hb, hci, hcell⟩ := exs_at (HR.out.1.below hbr) (fun i h => (HR.out.2 i h).keep hbr) hlt
        obtain ⟨a, hea⟩ : ∃ a, e.ar[k] = a := ⟨_, rfl⟩
        have ham : a ∈ e.ar := by rw [← hea]; exact List.getElem_mem hlt
        have HST := Lib.hid (show e.ar.take (k + 1) = e.ar.take k ++ [a] by rw [List.take_succ_eq_append_getElem hlt, hea])
        have HLT := Lib.hid hlt
        rw [hea] at hci
        have HLN := Lib.hid (show (l ++ nameOf e.k e.nm ++ namesL (e.ar.take k)).length + a.parts ≤ 1000000 by
          have h1 := namesL_len (e.ar.take k)
          have h2 := partsL_take e.ar (k + 1)
          rw [HST.out, partsL_snoc] at h2
          have h3 := HP.out
          have h4 := HPE.out
          have h5 : (nameOf e.k e.nm).length ≤ 1 := by unfold nameOf; split <;> simp
          simp only [List.length_append]
          omega)
        have HWA := Lib.hid (HI.out a ham)
        have HCI := Lib.hid hci
        obtain ⟨hn1, hs1, hl1, ha1, hx1, hr1, hi1⟩ := hci
        rename_i A3 c3 A4 c4 cs1
        have fc0 : wr.cell? (ad.add (k * 8)) = some (.int .i64 a.k) := hcell 0 _ rfl
        have fc1 : wr.cell? ⟨(ad.add (k * 8)).block, (ad.add (k * 8)).off + 1, none⟩ = some (.int .i64 a.op) := hcell 1 _ rfl
        have fc2 : wr.cell? ⟨(ad.add (k * 8)).block, (ad.add (k * 8)).off + 2, none⟩ = some (.string a.nm) := hcell 2 _ rfl
        have fc3 : wr.cell? ⟨(ad.add (k * 8)).block, (ad.add (k * 8)).off + 3, none⟩ = some (.int .i64 a.v.k) := hcell 3 _ rfl
        have fc4 : wr.cell? ⟨(ad.add (k * 8)).block, (ad.add (k * 8)).off + 4, none⟩ = some (.int .i64 a.v.n) := hcell 4 _ rfl
        have fc5 : wr.cell? ⟨(ad.add (k * 8)).block, (ad.add (k * 8)).off + 5, none⟩ = some (.string a.v.s) := hcell 5 _ rfl
        have fc6 : wr.cell? ⟨(ad.add (k * 8)).block, (ad.add (k * 8)).off + 6, none⟩ = some (.slice A3 a.v.l.length c3) := hcell 6 _ rfl
        have fc7 : wr.cell? ⟨(ad.add (k * 8)).block, (ad.add (k * 8)).off + 7, none⟩ = some (.slice A4 a.ar.length c4) := hcell 7 _ rfl
        clear hx1 hr1 hi1 hcell hea ham hb
        go_upto_region 5 with (fail)
        obtain ⟨W3, hW3⟩ : ∃ W3, W3 = wr.alloc (.cells #[.int .i64 a.k, .int .i64 a.op, .string a.nm, .int .i64 a.v.k, .int .i64 a.v.n, .string a.v.s, .slice A3 a.v.l.length c3, .slice A4 a.ar.length c4] 27 (0, 0)) := ⟨_, rfl⟩
        have hb3 : Below wr.heap.size wr W3 := hW3 ▸ (Below.refl _ wr).alloc (Nat.le_refl _) _
        have B3 : Blk W3 wr.heap.size 27 #[.int .i64 a.k, .int .i64 a.op, .string a.nm, .int .i64 a.v.k, .int .i64 a.v.n, .string a.v.s, .slice A3 a.v.l.length c3, .slice A4 a.ar.length c4] := hW3 ▸ Blk.new wr _ _
        have HO3 := Lib.hid (show OutIs B bo _ W3 from hW3 ▸ HO.out.alloc _)
        rw [← hW3]
        clear hW3 fc0 fc1 fc2 fc3 fc4 fc5 fc6 fc7
        have hsB : B ≤ wr.heap.size := Nat.le_trans hB hsr
        have gc0 : W3.cell? ⟨wr.heap.size, 0, none⟩ = some (.int .i64 a.k) := B3.cell 0
        have gc1 : W3.cell? ⟨wr.heap.size, 1, none⟩ = some (.int .i64 a.op) := B3.cell 1
        have gc2 : W3.cell? ⟨wr.heap.size, 2, none⟩ = some (.string a.nm) := B3.cell 2
        have gc3 : W3.cell? ⟨wr.heap.size, 3, none⟩ = some (.int .i64 a.v.k) := B3.cell 3
        have gc4 : W3.cell? ⟨wr.heap.size, 4, none⟩ = some (.int .i64 a.v.n) := B3.cell 4
        have gc5 : W3.cell? ⟨wr.heap.size, 5, none⟩ = some (.string a.v.s) := B3.cell 5
        have gc6 : W3.cell? ⟨wr.heap.size, 6, none⟩ = some (.slice A3 a.v.l.length c3) := B3.cell 6
        have gc7 : W3.cell? ⟨wr.heap.size, 7, none⟩ = some (.slice A4 a.ar.length c4) := B3.cell 7
        go_wp2_with fail
        refine (HWA.out _ _ W3 (HCI.out.keep (hb3.mono hsB)) (Nat.le_trans hsB hb3.size) HO3.out HLN.out).mono ?_
        rintro en w4 ⟨rfl, ho4, hf4⟩
        have HF4 := Lib.hid ((HF.out.trans (Fr.of hb3 hsB)).trans hf4)
        have HO4 := Lib.hid (show OutIs B bo (l ++ nameOf e.k e.nm ++ namesL (e.ar.take (k + 1))) w4 by rw [HST.out, namesL_snoc, ← List.append_assoc]; exact ho4)
        clear ho4 hf4 gc0 gc1 gc2 gc3 gc4 gc5 gc6 gc7
        go_wp2_with fail
        go_roundw
        case rel => exact ⟨k + 1, HLT.out, by go_num, HO4, HF4⟩
        case measure =>
          have := HLT.out
          simp [intOf]
          omega
      · have hke : k = e.ar.length := by omega
        have HOF := Lib.hid (show OutIs B bo (l ++ R) wr by have h := HO.out; rw [hke, List.take_length, List.append_assoc, ← HNM.out] at h; exact h)
        clear HO hke
        go_wp2_with fail
        go_end0
        exact ⟨rfl, HOF.out, HF.out⟩
set_option maxHeartbeats 4000000 in
set_option maxRecDepth 100000 in
/-- Names of the program -/
theorem Names_any (e : Ex) (hp : e.parts ≤ 1000000) : NamesSpec 14 e (compact (sortL e.names)) := by
  intro B cs w hx hB
  have HX := Lib.hid hx
  have HL := Lib.hid (show e.names.length ≤ 140737488355328 by have := names_len e; omega)
  obtain ⟨hn, hs, hl, ha, hx, hr, hi⟩ := hx
  rename_i A1 c1 A2 c2 cs
  clear hx hr hi
  show Calls Tryz.prog 14 #[.agg #[.int .i64 e.k, .int .i64 e.op, .string e.nm, .int .i64 e.v.k, .int .i64 e.v.n, .string e.v.s, .slice A1 e.v.l.length c1, .slice A2 e.ar.length c2]] w _
  go_enter Tryz.func14, Tryz.ntmps14
  go_upto_region 2 with (fail)
  obtain ⟨W, hW⟩ : ∃ W, W = ((w.alloc (.cells #[.int .i64 e.k, .int .i64 e.op, .string e.nm, .int .i64 e.v.k, .int .i64 e.v.n, .string e.v.s, .slice A1 e.v.l.length c1, .slice A2 e.ar.length c2] 27 (0, 0))).alloc (.cells #[.slice none 0 0] 34 (0, 0))) := ⟨_, rfl⟩
  have hbw : Below w.heap.size w W := by rw [hW]; exact (((Below.refl _ w).alloc (Nat.le_refl _) _).alloc (by simp) _)
  have B0 : Blk W (w.heap.size) 27 #[.int .i64 e.k, .int .i64 e.op, .string e.nm, .int .i64 e.v.k, .int .i64 e.v.n, .string e.v.s, .slice A1 e.v.l.length c1, .slice A2 e.ar.length c2] := by
    rw [hW]
    have := Blk.new w 27 #[.int .i64 e.k, .int .i64 e.op, .string e.nm, .int .i64 e.v.k, .int .i64 e.v.n, .string e.v.s, .slice A1 e.v.l.length c1, .slice A2 e.ar.length c2]
    have := this.alloc (.cells #[.slice none 0 0] 34 (0, 0))
    exact this
  have B1 : Blk W (w.heap.size + 1) 34 #[.slice none 0 0] := by
    rw [hW]
    have := Blk.new (w.alloc (.cells #[.int .i64 e.k, .int .i64 e.op, .string e.nm, .int .i64 e.v.k, .int .i64 e.v.n, .string e.v.s, .slice A1 e.v.l.length c1, .slice A2 e.ar.length c2] 27 (0, 0))) 34 #[.slice none 0 0]
    rwa [World.size_alloc] at this
  have hsz : W.heap.size = w.heap.size + 2 := by rw [hW]; simp
  rw [← hW]
  have ec0 : W.cell? ⟨w.heap.size, 0, none⟩ = some (.int .i64 e.k) := B0.cell 0
  have ec1 : W.cell? ⟨w.heap.size, 1, none⟩ = some (.int .i64 e.op) := B0.cell 1
  have ec2 : W.cell? ⟨w.heap.size, 2, none⟩ = some (.string e.nm) := B0.cell 2
  have ec3 : W.cell? ⟨w.heap.size, 3, none⟩ = some (.int .i64 e.v.k) := B0.cell 3
  have ec4 : W.cell? ⟨w.heap.size, 4, none⟩ = some (.int .i64 e.v.n) := B0.cell 4
  have ec5 : W.cell? ⟨w.heap.size, 5, none⟩ = some (.string e.v.s) := B0.cell 5
  have ec6 : W.cell? ⟨w.heap.size, 6, none⟩ = some (.slice A1 e.v.l.length c1) := B0.cell 6
  have ec7 : W.cell? ⟨w.heap.size, 7, none⟩ = some (.slice A2 e.ar.length c2) := B0.cell 7
  have HO := Lib.hid (show OutIs w.heap.size (w.heap.size + 1) [] W from ⟨_, 0, B1, World.ownsRow_nil _ _ _ _⟩)
  have HXW := Lib.hid ((HX.out.keep (hbw.mono hB)).up hB)
  clear hW hsz
  go_wp2_with (go_at_call 31; refine (walk_any w.heap.size (w.heap.size + 1) (by omega) e [] _ W HXW.out hbw.size HO.out (by simpa using hp)).mono ?_; rintro en w1 ⟨rfl, ho1, hf1⟩; obtain ⟨v, n, hbv, hov⟩ := ho1.h; have HBV := Lib.hid hbv; have HOV := Lib.hid hov; have HR1 := Lib.hid (hbw.trans hf1.b); have oc := hbv.cell 0; obtain ⟨A9, k9, c9, rfl⟩ := own_slice hov; clear ho1 hf1 hbv hov ec0 ec1 ec2 ec3 ec4 ec5 ec6 ec7)
  have h2 : w.heap.size + 1 < w1.heap.size := HBV.out.lt
  refine (sort_own _ w1 HOV.out (by simpa using HL.out) (by omega)).mono ?_
  rintro en w2 ⟨rfl, ho2, hb2⟩
  have HO2 := Lib.hid ho2
  have HB2 := HBV.out.below hb2 (by omega)
  have HR2 := Lib.hid (HR1.out.trans (hb2.mono (by omega)))
  have oc2 := HB2.cell 0
  have hs2 := hb2.size
  clear ho2 oc
  go_wp2_with fail
  refine (compact_own _ w2 HO2.out (by rw [sortL_len]; simpa using HL.out) (by omega)).mono ?_
  rintro en w3 ⟨v3, rfl, hv3, hb3⟩
  have HV3 := Lib.hid hv3
  have HR3 := Lib.hid (HR2.out.trans (hb3.mono (by omega)))
  clear hv3 oc2
  go_wp2_with fail
  go_ret
  exact ⟨_, rfl, by simpa using HV3.out, HR3.out⟩
end Go.Proofs.YtcmccjcelchlhaaGreatDoor
namespace Go.Proofs.YtcmccjcelchlhaaGreatDoor
open Go.RowKit
attribute [local go_sem ↓] Go.wp_at_zero Go.wp_at_succ

theorem later_h {W w' : World} (h : ∃ p : Later W, w' = p.w) : Below W.heap.size W w' := by
  obtain ⟨p, rfl⟩ := h
  exact p.h
theorem add_zero_ad (ad : Addr) : ad.add 0 = ad := by unfold Addr.add; simp
theorem ins_get (least : Int) (ar : List Ex) (i : Nat) (h : i < ar.length) : (insL least ar).getD i [] = parT (decide (rowN ar[i] < least)) ar[i].text := by
  rw [insL_map, List.getD_eq_getElem?_getD, List.getElem?_map, List.getElem?_eq_getElem h]; rfl
set_option maxHeartbeats 4000000 in
set_option maxRecDepth 100000 in
theorem binary_of (e : Ex) (left right : Int) (hT : ∀ a ∈ e.ar, TextSpec 25 a) (h9 : ∀ a ∈ e.ar, a.text.length ≤ 1000000000) (h2 : e.ar.length = 2) (B : Nat) (cs : List Value) (w : World) (hx : ExAt w B e cs) (hB : B ≤ w.heap.size) (htab : Tab w) (hm : Mx w) :
    Calls Tryz.prog 60 #[.agg cs.toArray, .int .i64 left, .int .i64 right] w fun en w' => en = .returned (.string (tx ((insL left e.ar).getD 0 [] ++ [32] ++ infixT e.op ++ [32] ++ (insL right e.ar).getD 1 []))) ∧ Below w.heap.size w w' := by
  obtain ⟨hn, hs, hl, ha, hx, hr, hi⟩ := hx
  rename_i A1 c1 A2 c2 cs
  obtain ⟨ad, ci0, rfl, hb0, hci0, hcell0⟩ := exs_at hr hi (show 0 < e.ar.length by omega)
  obtain ⟨ad', ci1, had, hb1, hci1, hcell1⟩ := exs_at hr hi (show 1 < e.ar.length by omega)
  injection had with had
  subst had
  have hg0 := ins_get left e.ar 0 (by omega)
  have hg1 := ins_get right e.ar 1 (by omega)
  have hW0 := fun w' cs' (hx' : ExAt w' B e.ar[0] cs') (hb : Below w.heap.size w w') => within_of e.ar[0] left (hT _ (List.getElem_mem _)) (h9 _ (List.getElem_mem _)) B cs' w' hx' (Nat.le_trans hB hb.size) (tabIs_below htab hb) (hm.below hb)
  have hW1 := fun w' cs' (hx' : ExAt w' B e.ar[1] cs') (hb : Below w.heap.size w w') => within_of e.ar[1] right (hT _ (List.getElem_mem _)) (h9 _ (List.getElem_mem _)) B cs' w' hx' (Nat.le_trans hB hb.size) (tabIs_below htab hb) (hm.below hb)
  have hz0 := h9 _ (List.getElem_mem (show 0 < e.ar.length by omega))
  have hz1 := h9 _ (List.getElem_mem (show 1 < e.ar.length by omega))
  obtain ⟨a, hea⟩ : ∃ a, e.ar[0] = a := ⟨_, rfl⟩
  obtain ⟨b, heb⟩ : ∃ b, e.ar[1] = b := ⟨_, rfl⟩
  rw [hea] at hci0 hg0 hz0
  rw [heb] at hci1 hg1 hz1
  simp only [hea] at hW0
  simp only [heb] at hW1
  have hp0 := par_le (decide (rowN a < left)) a.text
  have hp1 := par_le (decide (rowN b < right)) b.text
  have hwl := infix_le e.op
  obtain ⟨t0, ht0⟩ : ∃ t, tx (parT (decide (rowN a < left)) a.text) = t := ⟨_, rfl⟩
  obtain ⟨t1, ht1⟩ : ∃ t, tx (parT (decide (rowN b < right)) b.text) = t := ⟨_, rfl⟩
  obtain ⟨tw, htw⟩ : ∃ t, tx (infixT e.op) = t := ⟨_, rfl⟩
  have s0 : t0.size ≤ 2000000000 := by rw [← ht0, tx_size]; omega
  have s1 : t1.size ≤ 2000000000 := by rw [← ht1, tx_size]; omega
  have sw : tw.size ≤ 3 := by rw [← htw, tx_size]; omega
  have HV := Lib.hid (show tx ((insL left e.ar).getD 0 [] ++ [32] ++ infixT e.op ++ [32] ++ (insL right e.ar).getD 1 []) = t0 ++ ⟨#[32]⟩ ++ tw ++ ⟨#[32]⟩ ++ t1 by
    rw [hg0, hg1, ← ht0, ← ht1, ← htw, ← tx_cat, ← tx_cat, ← tx_cat, ← tx_cat]; rfl)
  rw [ht0] at hW0
  rw [ht1] at hW1
  have HCI0 := Lib.hid hci0
  have HCI1 := Lib.hid hci1
  obtain ⟨z1, z2, z3, z4, hxa, hra, hia⟩ := hci0
  rename_i A3 c3 A4 c4 cs3
  obtain ⟨y1, y2, y3, y4, hxb, hrb, hib⟩ := hci1
  rename_i A5 c5 A6 c6 cs4
  have hcell0' : ∀ j u, (exCells a A3 c3 A4 c4)[j]? = some u → w.cell? (ad.add j) = some u := fun j u hu => by have h := hcell0 j u hu; rwa [Nat.zero_mul, add_zero_ad] at h
  have hcell1' : ∀ j u, (exCells b A5 c5 A6 c6)[j]? = some u → w.cell? ((ad.add 8).add j) = some u := fun j u hu => by have h := hcell1 j u hu; rwa [Nat.one_mul] at h
  have fc0 : w.cell? (ad) = some (.int .i64 a.k) := hcell0' 0 _ rfl
  have fc1 : w.cell? ⟨(ad).block, (ad).off + 1, none⟩ = some (.int .i64 a.op) := hcell0' 1 _ rfl
  have fc2 : w.cell? ⟨(ad).block, (ad).off + 2, none⟩ = some (.string a.nm) := hcell0' 2 _ rfl
  have fc3 : w.cell? ⟨(ad).block, (ad).off + 3, none⟩ = some (.int .i64 a.v.k) := hcell0' 3 _ rfl
  have fc4 : w.cell? ⟨(ad).block, (ad).off + 4, none⟩ = some (.int .i64 a.v.n) := hcell0' 4 _ rfl
  have fc5 : w.cell? ⟨(ad).block, (ad).off + 5, none⟩ = some (.string a.v.s) := hcell0' 5 _ rfl
  have fc6 : w.cell? ⟨(ad).block, (ad).off + 6, none⟩ = some (.slice A3 a.v.l.length c3) := hcell0' 6 _ rfl
  have fc7 : w.cell? ⟨(ad).block, (ad).off + 7, none⟩ = some (.slice A4 a.ar.length c4) := hcell0' 7 _ rfl
  have gc0 : w.cell? ⟨ad.block, ad.off + 8, none⟩ = some (.int .i64 b.k) := hcell1' 0 _ rfl
  have gc1 : w.cell? ⟨ad.block, ad.off + 8 + 1, none⟩ = some (.int .i64 b.op) := hcell1' 1 _ rfl
  have gc2 : w.cell? ⟨ad.block, ad.off + 8 + 2, none⟩ = some (.string b.nm) := hcell1' 2 _ rfl
  have gc3 : w.cell? ⟨ad.block, ad.off + 8 + 3, none⟩ = some (.int .i64 b.v.k) := hcell1' 3 _ rfl
  have gc4 : w.cell? ⟨ad.block, ad.off + 8 + 4, none⟩ = some (.int .i64 b.v.n) := hcell1' 4 _ rfl
  have gc5 : w.cell? ⟨ad.block, ad.off + 8 + 5, none⟩ = some (.string b.v.s) := hcell1' 5 _ rfl
  have gc6 : w.cell? ⟨ad.block, ad.off + 8 + 6, none⟩ = some (.slice A5 b.v.l.length c5) := hcell1' 6 _ rfl
  have gc7 : w.cell? ⟨ad.block, ad.off + 8 + 7, none⟩ = some (.slice A6 b.ar.length c6) := hcell1' 7 _ rfl
  have HH2 := Lib.hid h2
  clear hx hr hi hT h9 htab hm hcell0 hcell1 hcell0' hcell1' hxa hra hia hxb hrb hib hg0 hg1 hea heb ht0 ht1 hz0 hz1 hp0 hp1 hb0 hb1 hwl z1 z2 z3 z4 y1 y2 y3 y4
  show Calls Tryz.prog 60 #[.agg #[.int .i64 e.k, .int .i64 e.op, .string e.nm, .int .i64 e.v.k, .int .i64 e.v.n, .string e.v.s, .slice A1 e.v.l.length c1, .slice (some ad) e.ar.length c2], .int .i64 left, .int .i64 right] w _
  rw [h2]
  clear h2
  go_enter Tryz.func60, Tryz.ntmps60
  go_upto_region 1 with (fail)
  obtain ⟨W, hW⟩ : ∃ W, W = (w.alloc (.cells #[.int .i64 e.k, .int .i64 e.op, .string e.nm, .int .i64 e.v.k, .int .i64 e.v.n, .string e.v.s, .slice A1 e.v.l.length c1, .slice (some ad) 2 c2] 27 (0, 0))) := ⟨_, rfl⟩
  have hbw : Below w.heap.size w W := by rw [hW]; exact ((Below.refl _ w).alloc (Nat.le_refl _) _)
  have B0 : Blk W (w.heap.size) 27 #[.int .i64 e.k, .int .i64 e.op, .string e.nm, .int .i64 e.v.k, .int .i64 e.v.n, .string e.v.s, .slice A1 e.v.l.length c1, .slice (some ad) 2 c2] := by
    rw [hW]
    have := Blk.new w 27 #[.int .i64 e.k, .int .i64 e.op, .string e.nm, .int .i64 e.v.k, .int .i64 e.v.n, .string e.v.s, .slice A1 e.v.l.length c1, .slice (some ad) 2 c2]
    exact this
  have hsz : W.heap.size = w.heap.size + 1 := by rw [hW]; simp
  rw [← hW]
  have k1 : ∀ w', Below W.heap.size W w' → Calls Tryz.prog 59 #[.agg #[.int .i64 a.k, .int .i64 a.op, .string a.nm, .int .i64 a.v.k, .int .i64 a.v.n, .string a.v.s, .slice A3 a.v.l.length c3, .slice A4 a.ar.length c4], .int .i64 left] w' fun en w'' => en = .returned (.string t0) ∧ Below w'.heap.size w' w'' := fun w' hb => hW0 w' _ (HCI0.out.keep ((hbw.trans (hb.mono hbw.size)).mono hB)) (hbw.trans (hb.mono hbw.size))
  have k2 : ∀ w', Below W.heap.size W w' → Calls Tryz.prog 59 #[.agg #[.int .i64 b.k, .int .i64 b.op, .string b.nm, .int .i64 b.v.k, .int .i64 b.v.n, .string b.v.s, .slice A5 b.v.l.length c5, .slice A6 b.ar.length c6], .int .i64 right] w' fun en w'' => en = .returned (.string t1) ∧ Below w'.heap.size w' w'' := fun w' hb => hW1 w' _ (HCI1.out.keep ((hbw.trans (hb.mono hbw.size)).mono hB)) (hbw.trans (hb.mono hbw.size))
  have k3 : ∀ w', Below W.heap.size W w' → Calls Tryz.prog 100 #[.int .i64 e.op] w' fun en w'' => en = .returned (.string tw) ∧ Below w'.heap.size w' w'' := fun w' hb => by have h := wordOf_any e.op w'; rwa [htw] at h
  have K1 := Lib.hid (Later.call k1)
  have K2 := Lib.hid (Later.call k2)
  have K3 := Lib.hid (Later.call k3)
  have q0 := Later.cell (show W.cell? ⟨w.heap.size, 1, none⟩ = some (.int .i64 e.op) from B0.cell 1)
  have q1 := Later.cell (show W.cell? ⟨w.heap.size, 7, none⟩ = some (.slice (some ad) 2 c2) from B0.cell 7)
  have u0 := Later.cell (Below.cell_of hbw fc0)
  have v0 := Later.cell (Below.cell_of hbw gc0)
  have u1 := Later.cell (Below.cell_of hbw fc1)
  have v1 := Later.cell (Below.cell_of hbw gc1)
  have u2 := Later.cell (Below.cell_of hbw fc2)
  have v2 := Later.cell (Below.cell_of hbw gc2)
  have u3 := Later.cell (Below.cell_of hbw fc3)
  have v3 := Later.cell (Below.cell_of hbw gc3)
  have u4 := Later.cell (Below.cell_of hbw fc4)
  have v4 := Later.cell (Below.cell_of hbw gc4)
  have u5 := Later.cell (Below.cell_of hbw fc5)
  have v5 := Later.cell (Below.cell_of hbw gc5)
  have u6 := Later.cell (Below.cell_of hbw fc6)
  have v6 := Later.cell (Below.cell_of hbw gc6)
  have u7 := Later.cell (Below.cell_of hbw fc7)
  have v7 := Later.cell (Below.cell_of hbw gc7)
  clear k1 k2 k3 hW0 hW1 hW hsz htw B0 fc0 gc0 fc1 gc1 fc2 gc2 fc3 gc3 fc4 gc4 fc5 gc5 fc6 gc6 fc7 gc7
  refine wp_region_later (by kernel_rfl) (by kernel_rfl) ?_
  repeat (go_big_quiet_step (first | with_reducible exact K1.out _ | with_reducible exact K2.out _ | with_reducible exact K3.out _))
  refine wpQuiet_nil ?_
  intro W9 hw'
  have hb9 := later_h hw'
  clear hw'
  go_wp2_with fail
  go_ret
  exact ⟨by rw [HV.out]; try rfl, hbw.trans (hb9.mono hbw.size)⟩
end Go.Proofs.YtcmccjcelchlhaaGreatDoor
namespace Go.Proofs.YtcmccjcelchlhaaGreatDoor
open Go.RowKit
attribute [local go_sem ↓] Go.wp_at_zero Go.wp_at_succ

set_option maxHeartbeats 2000000 in
theorem rrow_any (e : Ex) (B : Nat) (cs : List Value) (w : World) (hx : ExAt w B e cs) : Calls Tryz.prog 65 #[.agg cs.toArray] w fun en w' => en = .returned (.int .i64 (rowN e)) ∧ Below w.heap.size w w' := by
  obtain ⟨hn, hs, hl, ha, hx, hr, hi⟩ := hx
  rename_i A1 c1 A2 c2 cs
  clear hx hr hi
  obtain ⟨r, hr⟩ : ∃ r, rowN e = r := ⟨_, rfl⟩
  have HR := Lib.hid hr
  rw [hr]
  show Calls Tryz.prog 65 #[.agg #[.int .i64 e.k, .int .i64 e.op, .string e.nm, .int .i64 e.v.k, .int .i64 e.v.n, .string e.v.s, .slice A1 e.v.l.length c1, .slice A2 e.ar.length c2]] w _
  obtain ⟨k, hk⟩ : ∃ k, e.k = k := ⟨_, rfl⟩
  obtain ⟨op, hop⟩ : ∃ k, e.op = k := ⟨_, rfl⟩
  obtain ⟨vk, hvk⟩ : ∃ k, e.v.k = k := ⟨_, rfl⟩
  obtain ⟨vn, hvn⟩ : ∃ k, e.v.n = k := ⟨_, rfl⟩
  rw [hk, hop, hvk, hvn]
  unfold rowN at hr
  rw [hk, hop, hvk, hvn] at hr
  clear hk hop hvk hvn HR
  by_cases k1 : k = 1
  · subst k1
    by_cases k2 : vk = 2
    · subst k2
      by_cases k3 : vn < 0
      · have e0 : r = 7 := by rw [← hr]; simp; try omega
        subst e0
        clear hr
        go_enter Tryz.func65, Tryz.ntmps65
        go_wp2
        go_ret
        exact ⟨ret_int rfl, (Below.refl _ _).alloc (Nat.le_refl _) _⟩
      · have e0 : r = 8 := by rw [← hr, if_neg (by omega), if_pos (by decide)]
        subst e0
        clear hr
        go_enter Tryz.func65, Tryz.ntmps65
        go_wp2
        go_ret
        exact ⟨ret_int rfl, (Below.refl _ _).alloc (Nat.le_refl _) _⟩
    · have bv : (vk == 2) = false := by simp; omega
      have e0 : r = 8 := by rw [← hr, if_neg (by omega), if_pos (by decide)]
      subst e0
      clear hr k2
      go_enter Tryz.func65, Tryz.ntmps65
      go_wp2
      go_ret
      exact ⟨ret_int rfl, (Below.refl _ _).alloc (Nat.le_refl _) _⟩
  by_cases k4 : k = 4
  rotate_left
  · have bk1 : (k == 1) = false := by simp; omega
    have bk4 : (k != 4) = true := by simp; omega
    have e0 : r = 8 := by rw [← hr, if_neg (by omega), if_pos k4]
    subst e0
    clear hr k1 k4
    go_enter Tryz.func65, Tryz.ntmps65
    go_wp2
    go_ret
    exact ⟨ret_int rfl, (Below.refl _ _).alloc (Nat.le_refl _) _⟩
  subst k4
  clear k1
  rw [if_neg (by omega), if_neg (by decide)] at hr
  by_cases o3 : op = 3
  · subst o3
    have e0 : r = 1 := by rw [← hr]; decide
    subst e0
    clear hr
    go_enter Tryz.func65, Tryz.ntmps65
    go_wp2
    go_ret
    exact ⟨ret_int rfl, (Below.refl _ _).alloc (Nat.le_refl _) _⟩
  by_cases o2 : op = 2
  · subst o2
    have e0 : r = 2 := by rw [← hr]; decide
    subst e0
    clear hr
    go_enter Tryz.func65, Tryz.ntmps65
    go_wp2
    go_ret
    exact ⟨ret_int rfl, (Below.refl _ _).alloc (Nat.le_refl _) _⟩
  by_cases o1 : op = 1
  · subst o1
    have e0 : r = 3 := by rw [← hr]; decide
    subst e0
    clear hr
    go_enter Tryz.func65, Tryz.ntmps65
    go_wp2
    go_ret
    exact ⟨ret_int rfl, (Below.refl _ _).alloc (Nat.le_refl _) _⟩
  rw [if_neg o3, if_neg o2, if_neg o1] at hr
  have bop3 : (op == 3) = false := by simp; omega
  have bop2 : (op == 2) = false := by simp; omega
  have bop1 : (op == 1) = false := by simp; omega
  clear o1 o2 o3
  by_cases q1 : 4 ≤ op
  rotate_left
  · have hout : outB op 4 11 = true := outB_true (.inl (by omega))
    have bop15 : (op == 15) = false := by simp; omega
    have bop16 : (op == 16) = false := by simp; omega
    have bop17 : (op == 17) = false := by simp; omega
    have bop18 : (op == 18) = false := by simp; omega
    have bop19 : (op == 19) = false := by simp; omega
    have bop20 : (op == 20) = false := by simp; omega
    have e0 : r = 8 := by rw [← hr, if_neg (by omega), if_neg (by omega), if_neg (by omega), if_neg (by omega)]
    subst e0
    clear hr
    go_enter Tryz.func65, Tryz.ntmps65
    go_wp2_with fail
    refine (within_any _ _ _ _).mono ?_
    rintro en w1 ⟨rfl, rfl⟩
    rw [show outB _ 4 11 = true from hout]
    go_wp2
    go_ret
    exact ⟨ret_int rfl, (Below.refl _ _).alloc (Nat.le_refl _) _⟩
  by_cases q2 : op ≤ 11
  · have hout : outB op 4 11 = false := by unfold outB; simp; omega
    have e0 : r = 4 := by rw [← hr, if_pos ⟨q1, q2⟩]
    subst e0
    clear hr
    go_enter Tryz.func65, Tryz.ntmps65
    go_wp2_with fail
    refine (within_any _ _ _ _).mono ?_
    rintro en w1 ⟨rfl, rfl⟩
    rw [show outB _ 4 11 = false from hout]
    go_wp2
    go_ret
    exact ⟨ret_int rfl, (Below.refl _ _).alloc (Nat.le_refl _) _⟩
  rw [if_neg (by omega)] at hr
  have hout : outB op 4 11 = true := outB_true (.inr (by omega))
  by_cases o15 : op = 15
  · subst o15
    have e0 : r = 5 := by rw [← hr]; decide
    subst e0
    clear hr bop1 bop2 bop3
    go_enter Tryz.func65, Tryz.ntmps65
    go_wp2_with fail
    refine (within_any _ _ _ _).mono ?_
    rintro en w1 ⟨rfl, rfl⟩
    rw [show outB _ 4 11 = true from hout]
    go_wp2
    go_ret
    exact ⟨ret_int rfl, (Below.refl _ _).alloc (Nat.le_refl _) _⟩
  by_cases o16 : op = 16
  · subst o16
    have e0 : r = 5 := by rw [← hr]; decide
    subst e0
    clear hr bop1 bop2 bop3
    go_enter Tryz.func65, Tryz.ntmps65
    go_wp2_with fail
    refine (within_any _ _ _ _).mono ?_
    rintro en w1 ⟨rfl, rfl⟩
    rw [show outB _ 4 11 = true from hout]
    go_wp2
    go_ret
    exact ⟨ret_int rfl, (Below.refl _ _).alloc (Nat.le_refl _) _⟩
  by_cases o17 : op = 17
  · subst o17
    have e0 : r = 6 := by rw [← hr]; decide
    subst e0
    clear hr bop1 bop2 bop3
    go_enter Tryz.func65, Tryz.ntmps65
    go_wp2_with fail
    refine (within_any _ _ _ _).mono ?_
    rintro en w1 ⟨rfl, rfl⟩
    rw [show outB _ 4 11 = true from hout]
    go_wp2
    go_ret
    exact ⟨ret_int rfl, (Below.refl _ _).alloc (Nat.le_refl _) _⟩
  by_cases o18 : op = 18
  · subst o18
    have e0 : r = 6 := by rw [← hr]; decide
    subst e0
    clear hr bop1 bop2 bop3
    go_enter Tryz.func65, Tryz.ntmps65
    go_wp2_with fail
    refine (within_any _ _ _ _).mono ?_
    rintro en w1 ⟨rfl, rfl⟩
    rw [show outB _ 4 11 = true from hout]
    go_wp2
    go_ret
    exact ⟨ret_int rfl, (Below.refl _ _).alloc (Nat.le_refl _) _⟩
  by_cases o19 : op = 19
  · subst o19
    have e0 : r = 6 := by rw [← hr]; decide
    subst e0
    clear hr bop1 bop2 bop3
    go_enter Tryz.func65, Tryz.ntmps65
    go_wp2_with fail
    refine (within_any _ _ _ _).mono ?_
    rintro en w1 ⟨rfl, rfl⟩
    rw [show outB _ 4 11 = true from hout]
    go_wp2
    go_ret
    exact ⟨ret_int rfl, (Below.refl _ _).alloc (Nat.le_refl _) _⟩
  by_cases o20 : op = 20
  · subst o20
    have e0 : r = 7 := by rw [← hr]; decide
    subst e0
    clear hr bop1 bop2 bop3
    go_enter Tryz.func65, Tryz.ntmps65
    go_wp2_with fail
    refine (within_any _ _ _ _).mono ?_
    rintro en w1 ⟨rfl, rfl⟩
    rw [show outB _ 4 11 = true from hout]
    go_wp2
    go_ret
    exact ⟨ret_int rfl, (Below.refl _ _).alloc (Nat.le_refl _) _⟩
  have bop15 : (op == 15) = false := by simp; omega
  have bop16 : (op == 16) = false := by simp; omega
  have bop17 : (op == 17) = false := by simp; omega
  have bop18 : (op == 18) = false := by simp; omega
  have bop19 : (op == 19) = false := by simp; omega
  have bop20 : (op == 20) = false := by simp; omega
  have e0 : r = 8 := by rw [← hr, if_neg (by omega), if_neg (by omega), if_neg (by omega)]
  subst e0
  clear hr o15 o16 o17 o18 o19 o20
  go_enter Tryz.func65, Tryz.ntmps65
  go_wp2_with fail
  refine (within_any _ _ _ _).mono ?_
  rintro en w1 ⟨rfl, rfl⟩
  rw [show outB _ 4 11 = true from hout]
  go_wp2
  go_ret
  exact ⟨ret_int rfl, (Below.refl _ _).alloc (Nat.le_refl _) _⟩
/-- what the reference's texts ask of the library's tables -/
def MxS (w : World) : Prop := Mx w ∧ Sp w
theorem MxS.below {w w' : World} (h : MxS w) (hb : Below w.heap.size w w') : MxS w' := ⟨h.1.below hb, tabIs_below h.2 hb⟩
def RTextSpec (F : FuncId) (e : Ex) : Prop := ∀ (B : Nat) (cs : List Value) (w : World), ExAt w B e cs → B ≤ w.heap.size → Tab w → MxS w → Calls Tryz.prog F #[.agg cs.toArray] w fun en w' => en = .returned (.string (tx (e.text))) ∧ Below w.heap.size w w'
set_option maxHeartbeats 1000000 in
theorem inside_of (e : Ex) (least : Int) (hT : RTextSpec 26 e) (hl9 : e.text.length ≤ 1000000000) (B : Nat) (cs : List Value) (w : World) (hx : ExAt w B e cs) (hB : B ≤ w.heap.size) (htab : Tab w) (hm : MxS w) :
    Calls Tryz.prog 67 #[.agg cs.toArray, .int .i64 least] w fun en w' => en = .returned (.string (tx (parT (decide (rowN e < least)) e.text))) ∧ Below w.heap.size w w' := by
  have HX := Lib.hid hx
  have HT := Lib.hid (fun w' (hb : Below w.heap.size w w') cs' (hx' : ExAt w' B e cs') => hT B cs' w' hx' (Nat.le_trans hB hb.size) (tabIs_below htab hb) (hm.below hb))
  have HRW := Lib.hid (fun w' cs' (hx' : ExAt w' B e cs') => rrow_any e B cs' w' hx')
  obtain ⟨hn, hs, hl, ha, hx, hr, hi⟩ := hx
  rename_i A1 c1 A2 c2 cs
  have HXX := Lib.hid (fun w' (hb : Below w.heap.size w w') => HX.out.keep (hb.mono hB))
  obtain ⟨r, hrr⟩ : ∃ r, rowN e = r := ⟨_, rfl⟩
  obtain ⟨t, htt⟩ : ∃ t, tx e.text = t := ⟨_, rfl⟩
  have hts : t.size ≤ 1000000000 := by rw [← htt, tx_size]; exact hl9
  have HTT := Lib.hid htt
  have HRR := Lib.hid hrr
  clear hx hr hi hT htab hm
  show Calls Tryz.prog 67 #[.agg #[.int .i64 e.k, .int .i64 e.op, .string e.nm, .int .i64 e.v.k, .int .i64 e.v.n, .string e.v.s, .slice A1 e.v.l.length c1, .slice A2 e.ar.length c2], .int .i64 least] w _
  go_enter Tryz.func67, Tryz.ntmps67
  go_upto_region 1 with (fail)
  obtain ⟨W, hW⟩ : ∃ W, W = (w.alloc (.cells #[.int .i64 e.k, .int .i64 e.op, .string e.nm, .int .i64 e.v.k, .int .i64 e.v.n, .string e.v.s, .slice A1 e.v.l.length c1, .slice A2 e.ar.length c2] 27 (0, 0))) := ⟨_, rfl⟩
  have hbw : Below w.heap.size w W := by rw [hW]; exact ((Below.refl _ w).alloc (Nat.le_refl _) _)
  have B0 : Blk W (w.heap.size) 27 #[.int .i64 e.k, .int .i64 e.op, .string e.nm, .int .i64 e.v.k, .int .i64 e.v.n, .string e.v.s, .slice A1 e.v.l.length c1, .slice A2 e.ar.length c2] := by
    rw [hW]
    have := Blk.new w 27 #[.int .i64 e.k, .int .i64 e.op, .string e.nm, .int .i64 e.v.k, .int .i64 e.v.n, .string e.v.s, .slice A1 e.v.l.length c1, .slice A2 e.ar.length c2]
    exact this
  have hsz : W.heap.size = w.heap.size + 1 := by rw [hW]; simp
  rw [← hW]
  have ec0 : W.cell? ⟨w.heap.size, 0, none⟩ = some (.int .i64 e.k) := B0.cell 0
  have ec1 : W.cell? ⟨w.heap.size, 1, none⟩ = some (.int .i64 e.op) := B0.cell 1
  have ec2 : W.cell? ⟨w.heap.size, 2, none⟩ = some (.string e.nm) := B0.cell 2
  have ec3 : W.cell? ⟨w.heap.size, 3, none⟩ = some (.int .i64 e.v.k) := B0.cell 3
  have ec4 : W.cell? ⟨w.heap.size, 4, none⟩ = some (.int .i64 e.v.n) := B0.cell 4
  have ec5 : W.cell? ⟨w.heap.size, 5, none⟩ = some (.string e.v.s) := B0.cell 5
  have ec6 : W.cell? ⟨w.heap.size, 6, none⟩ = some (.slice A1 e.v.l.length c1) := B0.cell 6
  have ec7 : W.cell? ⟨w.heap.size, 7, none⟩ = some (.slice A2 e.ar.length c2) := B0.cell 7
  clear hW hsz
  go_wp2_with fail
  refine (HRW.out W _ (HXX.out W hbw)).mono ?_
  rw [hrr]
  rintro en W1 ⟨rfl, hb1⟩
  have hbw1 := hbw.trans (hb1.mono hbw.size)
  have B0 := B0.below hb1 B0.lt
  clear ec0 ec1 ec2 ec3 ec4 ec5 ec6 ec7 hb1 hrr
  have ec0 : W1.cell? ⟨w.heap.size, 0, none⟩ = some (.int .i64 e.k) := B0.cell 0
  have ec1 : W1.cell? ⟨w.heap.size, 1, none⟩ = some (.int .i64 e.op) := B0.cell 1
  have ec2 : W1.cell? ⟨w.heap.size, 2, none⟩ = some (.string e.nm) := B0.cell 2
  have ec3 : W1.cell? ⟨w.heap.size, 3, none⟩ = some (.int .i64 e.v.k) := B0.cell 3
  have ec4 : W1.cell? ⟨w.heap.size, 4, none⟩ = some (.int .i64 e.v.n) := B0.cell 4
  have ec5 : W1.cell? ⟨w.heap.size, 5, none⟩ = some (.string e.v.s) := B0.cell 5
  have ec6 : W1.cell? ⟨w.heap.size, 6, none⟩ = some (.slice A1 e.v.l.length c1) := B0.cell 6
  have ec7 : W1.cell? ⟨w.heap.size, 7, none⟩ = some (.slice A2 e.ar.length c2) := B0.cell 7
  by_cases hlt : r < least
  · have HP := Lib.hid (par_yes e.text (show decide (rowN e < least) = true by rw [HRR.out]; exact decide_eq_true hlt))
    go_wp2_with fail
    refine (HT.out W1 hbw1 _ (HXX.out W1 hbw1)).mono ?_
    rw [htt]
    rintro en W2 ⟨rfl, hb2⟩
    clear ec0 ec1 ec2 ec3 ec4 ec5 ec6 ec7 htt
    go_wp2_with fail
    go_ret
    exact ⟨by rw [HP.out, HTT.out]; try rfl, hbw1.trans (hb2.mono hbw1.size)⟩
  · have HP := Lib.hid (par_no e.text (show decide (rowN e < least) = false by rw [HRR.out]; exact decide_eq_false hlt))
    go_wp2_with fail
    refine (HT.out W1 hbw1 _ (HXX.out W1 hbw1)).mono ?_
    rw [htt]
    rintro en W2 ⟨rfl, hb2⟩
    clear ec0 ec1 ec2 ec3 ec4 ec5 ec6 ec7 htt
    go_wp2_with fail
    go_ret
    exact ⟨by rw [HP.out, HTT.out]; try rfl, hbw1.trans (hb2.mono hbw1.size)⟩
set_option maxHeartbeats 2000000 in
set_option maxRecDepth 100000 in
theorem rlist_of (ar : List Ex) (sep : List UInt8) (least : Int) (hT : ∀ a ∈ ar, RTextSpec 26 a) (h9 : ∀ a ∈ ar, a.text.length ≤ 1000000000) (hal : ar.length ≤ 1000000) (hj : (Lib.join (insL least ar) sep).length ≤ 1000000000) (A' : Option Addr) (c' B : Nat) (cs : List Value) (w : World) (hr : Reads w B 8 A' ar.length cs) (hi : ∀ i (h : i < ar.length), ExAt w B ar[i] ((cs.drop (i * 8)).take 8)) (hB : B ≤ w.heap.size) (htab : Tab w) (hm : MxS w) :
    Calls Tryz.prog 66 #[.slice A' ar.length c', .int .i64 least, .string (tx sep)] w fun en w' => en = .returned (.string (tx (Lib.join (insL least ar) sep))) ∧ Below w.heap.size w w' := by
  have HR := Lib.hid (And.intro hr hi)
  have HJ := Lib.hid hj
  have HTM := Lib.hid (And.intro htab hm)
  have HW := Lib.hid (fun a (ha : a ∈ ar) cs' w' (hx' : ExAt w' B a cs') (hb : Below w.heap.size w w') => inside_of a least (hT a ha) (h9 a ha) B cs' w' hx' (Nat.le_trans hB hb.size) (tabIs_below htab hb) (hm.below hb))
  obtain ⟨i0, hi0, hz0, hz1, hz2⟩ := info_parts infoStr
  have HLL := Lib.hid (insL_map least ar)
  clear hr hi htab hm hT h9
  go_enter Tryz.func66, Tryz.ntmps66
  go_wp2_with fail
  have hbr : Below w.heap.size w w := Below.refl _ _
  go_loopw [12, 7] (fun i v wr => ∃ (k : Nat) (u : Value), k ≤ ar.length ∧ i = .int .i64 k ∧ v = u ∧ Hid (wr.ownsRow w.heap.size 9 1 u k ((((insL least ar).take k).map tx).map Value.string)) ∧ Below w.heap.size w wr) (fun i _ _ => ar.length - (intOf i).toNat)
  case atStart => exact ⟨0, _, Nat.zero_le _, rfl, rfl, Lib.hid (World.ownsRow_nil _ _ _ _), hbr⟩
  case round =>
    obtain ⟨k, u, hk, rfl, rfl, HO, hbr⟩ := hrel
    have hsr := hbr.size
    have hBr := hbr.mono hB
    by_cases hlt : k < ar.length
    · obtain ⟨ad, ci, rfl, hb, hci, hcell⟩ := exs_at (HR.out.1.below hBr) (fun i h => (HR.out.2 i h).keep hBr) hlt
      obtain ⟨a, hea⟩ : ∃ a, ar[k] = a := ⟨_, rfl⟩
      have ham : a ∈ ar := by rw [← hea]; exact List.getElem_mem hlt
      have hstep : (insL least ar).take (k + 1) = (insL least ar).take k ++ [parT (decide (rowN a < least)) a.text] := by
        have hlk : k < (insL least ar).length := by rw [ins_len]; exact hlt
        rw [List.take_succ_eq_append_getElem hlk]
        congr 2
        simp only [HLL.out, List.getElem_map, hea]
      have HST := Lib.hid hstep
      have HLT := Lib.hid hlt
      rw [hea] at hci
      have HWA := Lib.hid (HW.out a ham)
      have HCI := Lib.hid hci
      obtain ⟨hn1, hs1, hl1, ha1, hx1, hr1, hi1⟩ := hci
      rename_i A3 c3 A4 c4 cs1
      obtain ⟨t, htt⟩ : ∃ t, tx (parT (decide (rowN a < least)) a.text) = t := ⟨_, rfl⟩
      have HTT := Lib.hid htt
      have fc0 : wr.cell? (ad.add (k * 8)) = some (.int .i64 a.k) := hcell 0 _ rfl
      have fc1 : wr.cell? ⟨(ad.add (k * 8)).block, (ad.add (k * 8)).off + 1, none⟩ = some (.int .i64 a.op) := hcell 1 _ rfl
      have fc2 : wr.cell? ⟨(ad.add (k * 8)).block, (ad.add (k * 8)).off + 2, none⟩ = some (.string a.nm) := hcell 2 _ rfl
      have fc3 : wr.cell? ⟨(ad.add (k * 8)).block, (ad.add (k * 8)).off + 3, none⟩ = some (.int .i64 a.v.k) := hcell 3 _ rfl
      have fc4 : wr.cell? ⟨(ad.add (k * 8)).block, (ad.add (k * 8)).off + 4, none⟩ = some (.int .i64 a.v.n) := hcell 4 _ rfl
      have fc5 : wr.cell? ⟨(ad.add (k * 8)).block, (ad.add (k * 8)).off + 5, none⟩ = some (.string a.v.s) := hcell 5 _ rfl
      have fc6 : wr.cell? ⟨(ad.add (k * 8)).block, (ad.add (k * 8)).off + 6, none⟩ = some (.slice A3 a.v.l.length c3) := hcell 6 _ rfl
      have fc7 : wr.cell? ⟨(ad.add (k * 8)).block, (ad.add (k * 8)).off + 7, none⟩ = some (.slice A4 a.ar.length c4) := hcell 7 _ rfl
      clear hx1 hr1 hi1 hcell hea ham hstep hb
      go_upto_region 5 with (fail)
      obtain ⟨W3, hW3⟩ : ∃ W3, W3 = wr.alloc (.cells #[.int .i64 a.k, .int .i64 a.op, .string a.nm, .int .i64 a.v.k, .int .i64 a.v.n, .string a.v.s, .slice A3 a.v.l.length c3, .slice A4 a.ar.length c4] 27 (0, 0)) := ⟨_, rfl⟩
      have hb3 : Below wr.heap.size wr W3 := hW3 ▸ (Below.refl _ wr).alloc (Nat.le_refl _) _
      have B3 : Blk W3 wr.heap.size 27 #[.int .i64 a.k, .int .i64 a.op, .string a.nm, .int .i64 a.v.k, .int .i64 a.v.n, .string a.v.s, .slice A3 a.v.l.length c3, .slice A4 a.ar.length c4] := hW3 ▸ Blk.new wr _ _
      have HO3 := Lib.hid (show W3.ownsRow w.heap.size 9 1 _ k _ from hW3 ▸ HO.out.alloc _)
      rw [← hW3]
      clear hW3 fc0 fc1 fc2 fc3 fc4 fc5 fc6 fc7
      have hr3 := hbr.trans (hb3.mono hsr)
      have gc0 : W3.cell? ⟨wr.heap.size, 0, none⟩ = some (.int .i64 a.k) := B3.cell 0
      have gc1 : W3.cell? ⟨wr.heap.size, 1, none⟩ = some (.int .i64 a.op) := B3.cell 1
      have gc2 : W3.cell? ⟨wr.heap.size, 2, none⟩ = some (.string a.nm) := B3.cell 2
      have gc3 : W3.cell? ⟨wr.heap.size, 3, none⟩ = some (.int .i64 a.v.k) := B3.cell 3
      have gc4 : W3.cell? ⟨wr.heap.size, 4, none⟩ = some (.int .i64 a.v.n) := B3.cell 4
      have gc5 : W3.cell? ⟨wr.heap.size, 5, none⟩ = some (.string a.v.s) := B3.cell 5
      have gc6 : W3.cell? ⟨wr.heap.size, 6, none⟩ = some (.slice A3 a.v.l.length c3) := B3.cell 6
      have gc7 : W3.cell? ⟨wr.heap.size, 7, none⟩ = some (.slice A4 a.ar.length c4) := B3.cell 7
      go_wp2_with fail
      refine (HWA.out _ W3 (HCI.out.keep (hb3.mono (Nat.le_trans hB hsr))) hr3).mono ?_
      rw [htt]
      rintro en w4 ⟨rfl, hb4⟩
      have hr4 := hr3.trans (hb4.mono hr3.size)
      have HO4 := Lib.hid (own_below HO3.out hb4)
      obtain ⟨xs, hxs⟩ : ∃ xs : List Value, (((insL least ar).take k).map tx).map Value.string = xs := ⟨_, rfl⟩
      have HXS := Lib.hid hxs
      rw [hxs] at HO4
      have HROW := Lib.hid (fun g hg => (HO4.out.lt g hg).1)
      clear hxs htt gc0 gc1 gc2 gc3 gc4 gc5 gc6 gc7 B3
      have hs4 := hr4.size
      go_wp2_with (at_builtin; refine wpList_append_own _ rfl _ _ 34 rfl w.heap.size 9 i0 (.string ByteArray.empty) 1 16 Tryz.underlying34 hi0 hz0 hz1 hz2 rfl (by decide) _ _ _ rfl (HO4.out.alloc _) ⟨w4.heap.size, 0, none⟩ 1 1 [.string t] rfl rfl ?c1 ?c2 ?c3 ?c4 ?c5 ?_)
      case c1 => intro j u hj; cases j <;> simp_all [go_sem]
      case c2 => intro u hu; simp only [List.mem_singleton] at hu; subst hu; rfl
      case c3 => (have h := HLT.out; unfold maxLen; omega)
      case c4 => (have h := HLT.out; omega)
      case c5 => (simp; omega)
      intro v2 w5 hown5 hg5 _
      have hr5 : Below w.heap.size w w5 := (hr4.alloc (by omega) _).grown hg5 (by simp; omega) (fun g hg => HROW.out g hg)
      have HO5 := Lib.hid (show w5.ownsRow w.heap.size 9 1 v2 (k + 1) ((((insL least ar).take (k + 1)).map tx).map Value.string) by rw [HST.out, List.map_append, List.map_append, List.map_singleton, List.map_singleton, HTT.out, HXS.out]; exact hown5)
      clear hown5 hg5
      go_wp2
      go_roundw
      case rel => exact ⟨k + 1, v2, HLT.out, by go_num, rfl, HO5, hr5⟩
      case measure =>
        have := HLT.out
        simp [intOf]
        omega
    · have hke : k = ar.length := by omega
      have htk : (insL least ar).take k = insL least ar := List.take_of_length_le (by rw [ins_len]; omega)
      have HJN := Lib.hid (join_own (n := k) ((insL least ar).map tx) (tx sep) wr (by have h := HO.out; rwa [htk] at h) (by rw [List.length_map, ins_len]; omega) (by rw [tx_data, List.map_map, show ((fun b : ByteArray => b.data.toList) ∘ tx) = id from funext tx_data, List.map_id]; have := HJ.out; omega))
      clear hke htk
      go_wp2_with fail
      refine HJN.out.mono ?_
      rintro en w9 ⟨⟨t, rfl, ht⟩, hb9⟩
      rw [tx_data, List.map_map, show ((fun b : ByteArray => b.data.toList) ∘ tx) = id from funext tx_data, List.map_id] at ht
      have HTE := Lib.hid (tx_of ht)
      clear ht
      go_wp2_with fail
      go_ret
      exact ⟨by rw [HTE.out]; try rfl, hbr.trans (hb9.mono hsr)⟩
end Go.Proofs.YtcmccjcelchlhaaGreatDoor
