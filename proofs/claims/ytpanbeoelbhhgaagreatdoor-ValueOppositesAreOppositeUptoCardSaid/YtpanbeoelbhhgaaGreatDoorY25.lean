/- Eval: aggregates, what is asked, if and else. -/
import Derived.Test.YtpanbeoelbhhgaaGreatDoorY23
import Derived.Test.YtpanbeoelbhhgaaGreatDoorY24
namespace Go.Proofs.YtpanbeoelbhhgaaGreatDoor
open Go.RowKit
attribute [local go_sem ↓] Go.wp_at_zero Go.wp_at_succ
set_option maxHeartbeats 4000000
set_option maxRecDepth 100000
/-- the eight cells of an expression -/
structure ExCells (w : World) (b o : Nat) (a : Ex) (A3 : Option Addr) (c3 : Nat) (A4 : Option Addr) (c4 : Nat) : Prop where
  f0 : w.cell? ⟨b, o, none⟩ = some (.int .i64 a.k)
  f1 : w.cell? ⟨b, o + 1, none⟩ = some (.int .i64 a.op)
  f2 : w.cell? ⟨b, o + 2, none⟩ = some (.string a.nm)
  f3 : w.cell? ⟨b, o + 3, none⟩ = some (.int .i64 a.v.k)
  f4 : w.cell? ⟨b, o + 4, none⟩ = some (.int .i64 a.v.n)
  f5 : w.cell? ⟨b, o + 5, none⟩ = some (.string a.v.s)
  f6 : w.cell? ⟨b, o + 6, none⟩ = some (.slice A3 a.v.l.length c3)
  f7 : w.cell? ⟨b, o + 7, none⟩ = some (.slice A4 a.ar.length c4)
theorem ExCells.below {w w' : World} {B b o : Nat} {a : Ex} {A3 A4 : Option Addr} {c3 c4 : Nat} (h : ExCells w b o a A3 c3 A4 c4) (hb : Below B w w') (hl : b < B) : ExCells w' b o a A3 c3 A4 c4 :=
  ⟨(hb.cell hl).trans h.f0, (hb.cell hl).trans h.f1, (hb.cell hl).trans h.f2, (hb.cell hl).trans h.f3, (hb.cell hl).trans h.f4, (hb.cell hl).trans h.f5, (hb.cell hl).trans h.f6, (hb.cell hl).trans h.f7⟩
/-- the arguments of an expression, from a plain address -/
theorem ExAt.args {w : World} {B : Nat} {e : Ex} {A' : Option Addr} {cs : List Value} (hr : Reads w B 8 A' e.ar.length cs) (hi : ∀ i (h : i < e.ar.length), ExAt w B e.ar[i] ((cs.drop (i * 8)).take 8)) (h : 0 < e.ar.length) :
    ∃ b o, A' = some ⟨b, o, none⟩ ∧ b < B ∧ ∀ i (h : i < e.ar.length), ∃ A3 c3 A4 c4, ExCells w b (o + i * 8) e.ar[i] A3 c3 A4 c4 ∧ ExAt w B e.ar[i] (exCells e.ar[i] A3 c3 A4 c4) := by
  obtain ⟨b, o, rfl, hb, hc⟩ := hr.base h (by decide)
  refine ⟨b, o, rfl, hb, fun i h => ?_⟩
  have hx := hi i h
  obtain ⟨ci, hci⟩ : ∃ ci, (cs.drop (i * 8)).take 8 = ci := ⟨_, rfl⟩
  rw [hci] at hx
  have hx2 := hx
  have hj : ∀ j u, ci[j]? = some u → w.cell? ⟨b, o + i * 8 + j, none⟩ = some u := fun j u hu => by
    rw [Nat.add_assoc]
    refine hc _ u ?_
    rw [← hci, List.getElem?_take] at hu
    split at hu
    · rwa [List.getElem?_drop] at hu
    · cases hu
  obtain ⟨a, ha⟩ : ∃ a, e.ar[i] = a := ⟨_, rfl⟩
  rw [ha] at hx hx2 ⊢
  obtain ⟨hn1, hs1, hl1, ha1, hx1, hr1, hi1⟩ := hx
  rename_i A3 c3 A4 c4 cs1
  exact ⟨A3, c3, A4, c4, ⟨hj 0 _ rfl, hj 1 _ rfl, hj 2 _ rfl, hj 3 _ rfl, hj 4 _ rfl, hj 5 _ rfl, hj 6 _ rfl, hj 7 _ rfl⟩, hx2⟩
theorem find_small {S : SceneD} (hS : ScOk S) (nm : ByteArray) (row : List Int) (h : (findB S.cells S.bounds nm row).v.k = 1) : -999 ≤ (findB S.cells S.bounds nm row).v.n ∧ (findB S.cells S.bounds nm row).v.n ≤ 999 := by
  unfold findB at h ⊢
  split
  · exact ⟨by decide, by decide⟩
  · rename_i c hc
    rw [hc] at h
    dsimp only at h
    split
    · rename_i b hb
      rw [hb] at h
      dsimp only at h
      obtain ⟨-, -, -, -, -, h5, -⟩ := hS.b b (List.mem_reverse.1 (List.mem_of_find?_eq_some hb))
      have hr := (chkP_of h5).r
      rw [h] at hr
      have e1 : loOf 1 = 1 := by decide
      have e2 : hiOf 1 = 3 := by decide
      omega
    · exact ⟨by decide, by decide⟩
theorem eval_5 {S : SceneD} (hS : ScOk S) (hSB : (∀ c ∈ S.cells, c.loops.length ≤ 1048576) ∧ (∀ c ∈ S.loops, c.loops.length ≤ 1048576)) {B0 gs m1 m2 m3 m4 : Nat} {kv1 kv2 kv3 kv4 : List (ByteArray × Value)} {e : Ex} (hf : e.fault = 0) (hI : ∀ a ∈ e.ar, EvSpec S B0 gs m1 m2 m3 m4 kv1 kv2 kv3 kv4 a) (hk : e.k = 5) : EvSpec S B0 gs m1 m2 m3 m4 kv1 kv2 kv3 kv4 e := by
  intro at_ row Aa R ca cr B1 cs w hw hx hat hrow hB1 hl hca hcr hrl hr hkd
  have hB0 := hw.le
  have HW := Lib.hid hw
  have hgs := hw.si.blk.lt
  have HX := Lib.hid hx
  obtain ⟨hn0, hs0, hl0, ha0, hx0, hr0, hi0⟩ := hx
  rename_i X1 x1 X2 x2 cs0
  have HXS := Lib.hid (And.intro hx0 (And.intro hs0 hl0))
  have HAR := Lib.hid (And.intro hr0 hi0)
  have HAT := Lib.hid hat
  have HROW := Lib.hid hrow
  have HR := Lib.hid hr
  have HKD := Lib.hid hkd
  obtain ⟨W, hW, hbw, BV, BR, hsz⟩ := box2 w 27 24 #[.int .i64 e.k, .int .i64 e.op, .string e.nm, .int .i64 e.v.k, .int .i64 e.v.n, .string e.v.s, .slice X1 e.v.l.length x1, .slice X2 e.ar.length x2] #[.int .i64 0, .int .i64 0, .string ⟨#[]⟩, .slice none 0 0]
  have HBV := Lib.hid BV
  have HBR := Lib.hid BR
  rw [show exCells e X1 x1 X2 x2 = [.int .i64 e.k, .int .i64 e.op, .string e.nm, .int .i64 e.v.k, .int .i64 e.v.n, .string e.v.s, .slice X1 e.v.l.length x1, .slice X2 e.ar.length x2] from rfl]
  change Calls _ _ #[_, .agg #[.int .i64 e.k, .int .i64 e.op, .string e.nm, .int .i64 e.v.k, .int .i64 e.v.n, .string e.v.s, .slice X1 e.v.l.length x1, .slice X2 e.ar.length x2], _, _] _ _
  obtain ⟨d, a, hfd, hdm, hns, hnz, hdl, har, haf, hka, ho1, ho2⟩ := kind_5 hS hf hk hkd
  have hok : ∀ row', okV (a.kind S.cells S.loops (d.loops ++ [d.nm])).1 (a.val S (d.loops ++ [d.nm]) row') := fun row' => val_ok hS.sceneOk a haf _ _ _ (Prod.ext rfl hka)
  have HVAL := Lib.hid (show e.val S at_ row = overV e.op (overVals S e.ar (d.loops ++ [d.nm]) (row.take d.loops.length) (findR S.rows e.nm (row.take d.loops.length))) by rw [val_eq, if_neg (by omega), if_neg (by omega), if_neg (by omega), if_pos hk, hfd])
  have HO := Lib.hid (show Calls Tryz.prog 49 #[.pointer (some ⟨gs, 0, none⟩), .agg #[.int .i64 e.k, .int .i64 e.op, .string e.nm, .int .i64 e.v.k, .int .i64 e.v.n, .string e.v.s, .slice X1 e.v.l.length x1, .slice X2 e.ar.length x2], .slice R row.length cr] W fun en w' => _ ∧ _ from agg_any S hS B0 gs m1 m2 m3 m4 kv1 kv2 kv3 kv4 e a d _ row R cr B1 _ W (hI a (by rw [har]; exact List.mem_singleton.2 rfl)) (HW.out.keep hbw) (HX.out.keep (hbw.mono hB0)) har ⟨ho1, ho2⟩ hfd hns hnz hr (hrow.below (hbw.mono hB1)) (Nat.le_trans hB1 hbw.size) hcr (by omega) (hSB.2 d hdm) hrl hka hok)
  rw [← HVAL.out, hk] at HO
  have ec0 : W.cell? ⟨w.heap.size, 0, none⟩ = some (.int .i64 5) := by have h := HBV.out.cell 0; rwa [show (#[.int .i64 e.k, .int .i64 e.op, .string e.nm, .int .i64 e.v.k, .int .i64 e.v.n, .string e.v.s, .slice X1 e.v.l.length x1, .slice X2 e.ar.length x2] : Array Value)[0]? = some (.int .i64 5) from by rw [hk]; rfl] at h
  have ec1 : W.cell? ⟨w.heap.size, 1, none⟩ = some (.int .i64 e.op) := HBV.out.cell 1
  have ec2 : W.cell? ⟨w.heap.size, 2, none⟩ = some (.string e.nm) := HBV.out.cell 2
  have ec3 : W.cell? ⟨w.heap.size, 3, none⟩ = some (.int .i64 e.v.k) := HBV.out.cell 3
  have ec4 : W.cell? ⟨w.heap.size, 4, none⟩ = some (.int .i64 e.v.n) := HBV.out.cell 4
  have ec5 : W.cell? ⟨w.heap.size, 5, none⟩ = some (.string e.v.s) := HBV.out.cell 5
  have ec6 : W.cell? ⟨w.heap.size, 6, none⟩ = some (.slice X1 e.v.l.length x1) := HBV.out.cell 6
  have ec7 : W.cell? ⟨w.heap.size, 7, none⟩ = some (.slice X2 e.ar.length x2) := HBV.out.cell 7
  clear hk hx0 hr0 hi0 hat hrow hr hkd hfd hns hnz hdl hdm hok har haf hka
  obtain ⟨n, hn1⟩ : ∃ n, row.length = n := ⟨_, rfl⟩
  rw [hl, hn1]
  rw [hn1] at hl hcr hrl
  rw [hl] at hca
  rw [hn1] at HO
  go_enter Tryz.func20, Tryz.ntmps20
  go_upto_region 1 with (fail)
  rw [← hW]
  clear hW hsz
  go_wp2_with (go_at_call 49; (with_reducible refine HO.out.mono ?_); rintro e7 w7 ⟨⟨x, rfl, cs7, rfl, ⟨A7, c7, rfl, hr7⟩, hs7, hl7⟩, hb7⟩; have hbw7 := hbw.trans (hb7.mono hbw.size); have B0 := HBR.out.below hb7 HBR.out.lt; obtain ⟨r0, s0, r1, s1, r2, s2, r3, s3⟩ := Blk.z4 B0)
  exact end4 Tryz.results20 rfl B0 hbw7 (Nat.le_succ _) (fun W9 hW9 => ⟨⟨_, rfl, ⟨_, rfl, (VAt.back ⟨⟨A7, c7, rfl, hr7⟩, hs7, hl7⟩ hbw7 hB0).keep hW9 hB0⟩⟩, hW9⟩)
theorem eval_about {S : SceneD} (hS : ScOk S) (hSB : (∀ c ∈ S.cells, c.loops.length ≤ 1048576) ∧ (∀ c ∈ S.loops, c.loops.length ≤ 1048576)) {B0 gs m1 m2 m3 m4 : Nat} {kv1 kv2 kv3 kv4 : List (ByteArray × Value)} {e : Ex} (hf : e.fault = 0) (hk : e.k = 4) (ho : 12 ≤ e.op ∧ e.op ≤ 14) : EvSpec S B0 gs m1 m2 m3 m4 kv1 kv2 kv3 kv4 e := by
  intro at_ row Aa R ca cr B1 cs w hw hx hat hrow hB1 hl hca hcr hrl hr hkd
  have hB0 := hw.le
  have HW := Lib.hid hw
  have hgs := hw.si.blk.lt
  obtain ⟨hn0, hs0, hl0, ha0, hx0, hr0, hi0⟩ := hx
  rename_i X1 x1 X2 x2 cs0
  have HXS := Lib.hid (And.intro hx0 (And.intro hs0 hl0))
  have HAR := Lib.hid (And.intro hr0 hi0)
  have HAT := Lib.hid hat
  have HROW := Lib.hid hrow
  have HR := Lib.hid hr
  have HKD := Lib.hid hkd
  obtain ⟨W, hW, hbw, BV, BR, hsz⟩ := box2 w 27 24 #[.int .i64 e.k, .int .i64 e.op, .string e.nm, .int .i64 e.v.k, .int .i64 e.v.n, .string e.v.s, .slice X1 e.v.l.length x1, .slice X2 e.ar.length x2] #[.int .i64 0, .int .i64 0, .string ⟨#[]⟩, .slice none 0 0]
  have HBV := Lib.hid BV
  have HBR := Lib.hid BR
  rw [show exCells e X1 x1 X2 x2 = [.int .i64 e.k, .int .i64 e.op, .string e.nm, .int .i64 e.v.k, .int .i64 e.v.n, .string e.v.s, .slice X1 e.v.l.length x1, .slice X2 e.ar.length x2] from rfl]
  change Calls _ _ #[_, .agg #[.int .i64 e.k, .int .i64 e.op, .string e.nm, .int .i64 e.v.k, .int .i64 e.v.n, .string e.v.s, .slice X1 e.v.l.length x1, .slice X2 e.ar.length x2], _, _] _ _
  obtain ⟨a, har, hak⟩ := head_ans hf hk ho
  have hka := (kind_4 hk hkd).1 a (by rw [har]; exact List.mem_singleton.2 rfl)
  rw [kind_eq, if_neg (by omega), if_pos hak] at hka
  obtain ⟨d, hfd, hdm, hns, hnz, hdl⟩ := ans_facts hS hka
  obtain ⟨bd, hbd⟩ : ∃ b, findB S.cells S.bounds a.nm row = b := ⟨_, rfl⟩
  have hsm := find_small hS a.nm row
  have HVAL := Lib.hid (show e.val S at_ row = aboutV e.op bd by rw [val_eq, if_neg (by omega), if_neg (by omega), if_neg (by omega), if_neg (by omega), if_pos ho, har]; show aboutV e.op (findB S.cells S.bounds a.nm row) = _; rw [hbd])
  have HB := Lib.hid (fun w' (hb : Below W.heap.size W w') => bound_any hS kv1 kv2 kv3 kv4 gs m1 m2 m3 m4 B0 B1 a.nm row R cr d w' (HW.out.keep (hbw.trans (hb.mono hbw.size))).si hfd hns hnz hr (hrow.below ((hbw.trans (hb.mono hbw.size)).mono hB1)) (Nat.le_trans hB1 (hbw.trans (hb.mono hbw.size)).size) hcr (by omega) (hSB.1 d hdm) hrl (HW.out.keep (hbw.trans (hb.mono hbw.size))).tab)
  rw [hbd] at HB hsm
  have hear : e.ar.length = 1 := by rw [har]; rfl
  obtain ⟨b, o, hA2, hb9, hca9⟩ := ExAt.args hr0 hi0 (by omega)
  subst hA2
  obtain ⟨A3, c3, A4, c4, hcc, -⟩ := hca9 0 (by omega)
  have ha2 : W.cell? ⟨b, o + 2, none⟩ = some (.string a.nm) := by
    have h := (hcc.below hbw (Nat.lt_of_lt_of_le hb9 hB0)).f2
    simp only [har, List.getElem_cons_zero] at h
    exact h
  obtain ⟨o9, ho9⟩ : ∃ q, e.op = q := ⟨_, rfl⟩
  have HAB := Lib.hid (fun (w' : World) E1 y1 E2 y2 => about_any o9 bd (.pointer (some ⟨gs, 0, none⟩)) E1 E2 y1 y2 B0 w' (by omega) hsm)
  have ec0 : W.cell? ⟨w.heap.size, 0, none⟩ = some (.int .i64 4) := by have h := HBV.out.cell 0; rwa [show (#[.int .i64 e.k, .int .i64 e.op, .string e.nm, .int .i64 e.v.k, .int .i64 e.v.n, .string e.v.s, .slice X1 e.v.l.length x1, .slice (some ⟨b, o, none⟩) e.ar.length x2] : Array Value)[0]? = some (.int .i64 4) from by rw [hk]; rfl] at h
  have ec1 : W.cell? ⟨w.heap.size, 1, none⟩ = some (.int .i64 e.op) := HBV.out.cell 1
  have ec7 : W.cell? ⟨w.heap.size, 7, none⟩ = some (.slice (some ⟨b, o, none⟩) e.ar.length x2) := HBV.out.cell 7
  rw [ho9] at ec1 HVAL
  rw [hear] at ec7
  have hoc : o9 = 12 ∨ o9 = 13 ∨ o9 = 14 := by omega
  clear hk hx0 hr0 hi0 hat hrow hr hkd hfd hns hnz hdl hdm har hak hka hcc hca9 hbd hsm ho9 ho hear
  obtain ⟨n, hn1⟩ : ∃ n, row.length = n := ⟨_, rfl⟩
  rw [hl, hn1]
  rw [hn1] at hl hcr hrl
  rw [hl] at hca
  rw [hn1] at HB
  have hbr := Below.refl W.heap.size W
  have hsz2 : w.heap.size + 1 ≤ W.heap.size := by omega
  have hbl : b < w.heap.size + 1 := by omega
  have HSA := Lib.hid (show ∀ w', Below (w.heap.size + 1) W w' → w'.cell? ⟨w.heap.size, 1, none⟩ = some (.int .i64 o9) ∧ w'.cell? ⟨w.heap.size, 7, none⟩ = some (.slice (some ⟨b, o, none⟩) 1 x2) ∧ w'.cell? ⟨b, o + 2, none⟩ = some (.string a.nm) ∧ Below (w.heap.size + 1) W w' from fun w' hb => ⟨(hb.cell (by simp)).trans ec1, (hb.cell (by simp)).trans ec7, (hb.cell hbl).trans ha2, hb⟩)
  go_enter Tryz.func20, Tryz.ntmps20
  go_upto_region 1 with (fail)
  rw [← hW]
  clear hW hsz
  rcases hoc with rfl | rfl | rfl
  · skip
    go_upto_region 17 with (fail)
    go_region_held3 (fun w' => w'.cell? ⟨w.heap.size, 1, none⟩ = some (.int .i64 12) ∧ w'.cell? ⟨w.heap.size, 7, none⟩ = some (.slice (some ⟨b, o, none⟩) 1 x2) ∧ w'.cell? ⟨b, o + 2, none⟩ = some (.string a.nm) ∧ Below (w.heap.size + 1) W w')
      (first | exact HSA.out _ (hbr.mono hsz2) | exact HSA.out _ (hbr.drew.mono hsz2) | exact HSA.out _ (hq1.mono hsz2) | exact HSA.out _ (hq2.mono hsz2) | exact HSA.out _ (((((hq2.mono hsz2).setCell (p := ⟨w.heap.size + 1, 0, none⟩) (Nat.le_refl _) _).setCell (p := ⟨w.heap.size + 1, 1, none⟩) (Nat.le_refl _) _).setCell (p := ⟨w.heap.size + 1, 2, none⟩) (Nat.le_refl _) _).setCell (p := ⟨w.heap.size + 1, 3, none⟩) (Nat.le_refl _) _))
      (first
        | (go_at_call 46; (with_reducible refine (HB.out _ hbr.drew).mono ?_); rintro e2 w2 ⟨⟨cs2, rfl, ⟨E1, y1, E2, y2, rfl, -, hre⟩, -, -, hsb, hlb⟩, hb2⟩; have hq1 := hbr.drew.trans (hb2.mono hbr.drew.size))
        | (go_at_call 50; (with_reducible refine (HAB.out _ _ _ _ _).mono ?_); rintro e7 w7 ⟨⟨x, rfl, cs7, rfl, ⟨A7, c7, rfl, hr7⟩, hs7, hl7⟩, hb7⟩; have hq2 := hq1.trans (hb7.mono hq1.size); have hbw7 := hbw.trans (hq2.mono hbw.size); have B0 := HBR.out.below hq2 HBR.out.lt; obtain ⟨r0, s0, r1, s1, r2, s2, r3, s3⟩ := Blk.z4 B0))
    all_goals
      go_wp2_with fail
      exact end4 Tryz.results20 rfl B0 hbw7 (Nat.le_succ _) (fun W9 hW9 => ⟨⟨_, rfl, by rw [HVAL.out]; exact ⟨_, rfl, (VAt.back ⟨⟨A7, c7, rfl, hr7⟩, hs7, hl7⟩ hbw7 hB0).keep hW9 hB0⟩⟩, hW9⟩)
  · skip
    go_upto_region 17 with (fail)
    go_region_held3 (fun w' => w'.cell? ⟨w.heap.size, 1, none⟩ = some (.int .i64 13) ∧ w'.cell? ⟨w.heap.size, 7, none⟩ = some (.slice (some ⟨b, o, none⟩) 1 x2) ∧ w'.cell? ⟨b, o + 2, none⟩ = some (.string a.nm) ∧ Below (w.heap.size + 1) W w')
      (first | exact HSA.out _ (hbr.mono hsz2) | exact HSA.out _ (hbr.drew.mono hsz2) | exact HSA.out _ (hq1.mono hsz2) | exact HSA.out _ (hq2.mono hsz2) | exact HSA.out _ (((((hq2.mono hsz2).setCell (p := ⟨w.heap.size + 1, 0, none⟩) (Nat.le_refl _) _).setCell (p := ⟨w.heap.size + 1, 1, none⟩) (Nat.le_refl _) _).setCell (p := ⟨w.heap.size + 1, 2, none⟩) (Nat.le_refl _) _).setCell (p := ⟨w.heap.size + 1, 3, none⟩) (Nat.le_refl _) _))
      (first
        | (go_at_call 46; (with_reducible refine (HB.out _ hbr.drew).mono ?_); rintro e2 w2 ⟨⟨cs2, rfl, ⟨E1, y1, E2, y2, rfl, -, hre⟩, -, -, hsb, hlb⟩, hb2⟩; have hq1 := hbr.drew.trans (hb2.mono hbr.drew.size))
        | (go_at_call 50; (with_reducible refine (HAB.out _ _ _ _ _).mono ?_); rintro e7 w7 ⟨⟨x, rfl, cs7, rfl, ⟨A7, c7, rfl, hr7⟩, hs7, hl7⟩, hb7⟩; have hq2 := hq1.trans (hb7.mono hq1.size); have hbw7 := hbw.trans (hq2.mono hbw.size); have B0 := HBR.out.below hq2 HBR.out.lt; obtain ⟨r0, s0, r1, s1, r2, s2, r3, s3⟩ := Blk.z4 B0))
    all_goals
      go_wp2_with fail
      exact end4 Tryz.results20 rfl B0 hbw7 (Nat.le_succ _) (fun W9 hW9 => ⟨⟨_, rfl, by rw [HVAL.out]; exact ⟨_, rfl, (VAt.back ⟨⟨A7, c7, rfl, hr7⟩, hs7, hl7⟩ hbw7 hB0).keep hW9 hB0⟩⟩, hW9⟩)
  · skip
    go_upto_region 17 with (fail)
    go_region_held3 (fun w' => w'.cell? ⟨w.heap.size, 1, none⟩ = some (.int .i64 14) ∧ w'.cell? ⟨w.heap.size, 7, none⟩ = some (.slice (some ⟨b, o, none⟩) 1 x2) ∧ w'.cell? ⟨b, o + 2, none⟩ = some (.string a.nm) ∧ Below (w.heap.size + 1) W w')
      (first | exact HSA.out _ (hbr.mono hsz2) | exact HSA.out _ (hbr.drew.mono hsz2) | exact HSA.out _ (hq1.mono hsz2) | exact HSA.out _ (hq2.mono hsz2) | exact HSA.out _ (((((hq2.mono hsz2).setCell (p := ⟨w.heap.size + 1, 0, none⟩) (Nat.le_refl _) _).setCell (p := ⟨w.heap.size + 1, 1, none⟩) (Nat.le_refl _) _).setCell (p := ⟨w.heap.size + 1, 2, none⟩) (Nat.le_refl _) _).setCell (p := ⟨w.heap.size + 1, 3, none⟩) (Nat.le_refl _) _))
      (first
        | (go_at_call 46; (with_reducible refine (HB.out _ hbr.drew).mono ?_); rintro e2 w2 ⟨⟨cs2, rfl, ⟨E1, y1, E2, y2, rfl, -, hre⟩, -, -, hsb, hlb⟩, hb2⟩; have hq1 := hbr.drew.trans (hb2.mono hbr.drew.size))
        | (go_at_call 50; (with_reducible refine (HAB.out _ _ _ _ _).mono ?_); rintro e7 w7 ⟨⟨x, rfl, cs7, rfl, ⟨A7, c7, rfl, hr7⟩, hs7, hl7⟩, hb7⟩; have hq2 := hq1.trans (hb7.mono hq1.size); have hbw7 := hbw.trans (hq2.mono hbw.size); have B0 := HBR.out.below hq2 HBR.out.lt; obtain ⟨r0, s0, r1, s1, r2, s2, r3, s3⟩ := Blk.z4 B0))
    all_goals
      go_wp2_with fail
      exact end4 Tryz.results20 rfl B0 hbw7 (Nat.le_succ _) (fun W9 hW9 => ⟨⟨_, rfl, by rw [HVAL.out]; exact ⟨_, rfl, (VAt.back ⟨⟨A7, c7, rfl, hr7⟩, hs7, hl7⟩ hbw7 hB0).keep hW9 hB0⟩⟩, hW9⟩)
theorem argAt_map {S : SceneD} {at_ : List ByteArray} {row : List Int} {l : List Ex} {i : Nat} (h : i < l.length) : argAt (valsL S l at_ row) i = (l[i]).val S at_ row := by
  rw [valsL_map]; unfold argAt; rw [List.getD_eq_getElem?_getD, List.getElem?_map, List.getElem?_eq_getElem h]; rfl
theorem eval_if {S : SceneD} (_hS : ScOk S) (_hSB : (∀ c ∈ S.cells, c.loops.length ≤ 1048576) ∧ (∀ c ∈ S.loops, c.loops.length ≤ 1048576)) {B0 gs m1 m2 m3 m4 : Nat} {kv1 kv2 kv3 kv4 : List (ByteArray × Value)} {e : Ex} (hf : e.fault = 0) (hI : ∀ a ∈ e.ar, EvSpec S B0 gs m1 m2 m3 m4 kv1 kv2 kv3 kv4 a) (hk : e.k = 4) (ho : e.op = 26) : EvSpec S B0 gs m1 m2 m3 m4 kv1 kv2 kv3 kv4 e := by
  intro at_ row Aa R ca cr B1 cs w hw hx hat hrow hB1 hl hca hcr hrl hr hkd
  have hB0 := hw.le
  have HW := Lib.hid hw
  have hgs := hw.si.blk.lt
  obtain ⟨hn0, hs0, hl0, ha0, hx0, hr0, hi0⟩ := hx
  rename_i X1 x1 X2 x2 cs0
  have HXS := Lib.hid (And.intro hx0 (And.intro hs0 hl0))
  have HAR := Lib.hid (And.intro hr0 hi0)
  have HAT := Lib.hid hat
  have HROW := Lib.hid hrow
  have HR := Lib.hid hr
  have HKD := Lib.hid hkd
  obtain ⟨W, hW, hbw, BV, BR, hsz⟩ := box2 w 27 24 #[.int .i64 e.k, .int .i64 e.op, .string e.nm, .int .i64 e.v.k, .int .i64 e.v.n, .string e.v.s, .slice X1 e.v.l.length x1, .slice X2 e.ar.length x2] #[.int .i64 0, .int .i64 0, .string ⟨#[]⟩, .slice none 0 0]
  have HBV := Lib.hid BV
  have HBR := Lib.hid BR
  rw [show exCells e X1 x1 X2 x2 = [.int .i64 e.k, .int .i64 e.op, .string e.nm, .int .i64 e.v.k, .int .i64 e.v.n, .string e.v.s, .slice X1 e.v.l.length x1, .slice X2 e.ar.length x2] from rfl]
  change Calls _ _ #[_, .agg #[.int .i64 e.k, .int .i64 e.op, .string e.nm, .int .i64 e.v.k, .int .i64 e.v.n, .string e.v.s, .slice X1 e.v.l.length x1, .slice X2 e.ar.length x2], _, _] _ _
  have hal : e.ar.length = 3 := by have h := (partOk (fault_part hf)).a4 hk; rw [ho, show arOf 26 = (3, 3) from by decide] at h; omega
  have hkz := (kind_4 hk hkd).1
  obtain ⟨b, o, hA2, hb9, hca9⟩ := ExAt.args hr0 hi0 (by omega)
  subst hA2
  have hbW := Nat.lt_of_lt_of_le hb9 hB0
  obtain ⟨P0, p0, Q0, q0, hc0, hx01⟩ := hca9 0 (by omega)
  obtain ⟨a0, ha0⟩ : ∃ a, e.ar[0]'(by omega) = a := ⟨_, rfl⟩
  have hm0 : a0 ∈ e.ar := by rw [← ha0]; exact List.getElem_mem _
  rw [ha0] at hc0 hx01
  have HC0 := Lib.hid hc0
  have HE0 := Lib.hid (show ∀ w', Below W.heap.size W w' → Calls Tryz.prog 20 #[.pointer (some ⟨gs, 0, none⟩), .agg #[.int .i64 a0.k, .int .i64 a0.op, .string a0.nm, .int .i64 a0.v.k, .int .i64 a0.v.n, .string a0.v.s, .slice P0 a0.v.l.length p0, .slice Q0 a0.ar.length q0], .slice Aa at_.length ca, .slice R row.length cr] w' fun en w'' => (∃ x, en = .returned x ∧ VRet w'' B0 (a0.val S at_ row) x) ∧ Below w'.heap.size w' w'' from fun w' hb => hI a0 hm0 at_ row Aa R ca cr B1 _ w' (HW.out.keep (hbw.trans (hb.mono hbw.size))) (hx01.keep ((hbw.trans (hb.mono hbw.size)).mono hB0)) (hat.below ((hbw.trans (hb.mono hbw.size)).mono hB1)) (hrow.below ((hbw.trans (hb.mono hbw.size)).mono hB1)) (Nat.le_trans hB1 (hbw.trans (hb.mono hbw.size)).size) hl hca hcr hrl hr (hkz a0 hm0))
  obtain ⟨P1, p1, Q1, q1, hc1, hx11⟩ := hca9 1 (by omega)
  obtain ⟨a1, ha1⟩ : ∃ a, e.ar[1]'(by omega) = a := ⟨_, rfl⟩
  have hm1 : a1 ∈ e.ar := by rw [← ha1]; exact List.getElem_mem _
  rw [ha1] at hc1 hx11
  have HC1 := Lib.hid hc1
  have HE1 := Lib.hid (show ∀ w', Below W.heap.size W w' → Calls Tryz.prog 20 #[.pointer (some ⟨gs, 0, none⟩), .agg #[.int .i64 a1.k, .int .i64 a1.op, .string a1.nm, .int .i64 a1.v.k, .int .i64 a1.v.n, .string a1.v.s, .slice P1 a1.v.l.length p1, .slice Q1 a1.ar.length q1], .slice Aa at_.length ca, .slice R row.length cr] w' fun en w'' => (∃ x, en = .returned x ∧ VRet w'' B0 (a1.val S at_ row) x) ∧ Below w'.heap.size w' w'' from fun w' hb => hI a1 hm1 at_ row Aa R ca cr B1 _ w' (HW.out.keep (hbw.trans (hb.mono hbw.size))) (hx11.keep ((hbw.trans (hb.mono hbw.size)).mono hB0)) (hat.below ((hbw.trans (hb.mono hbw.size)).mono hB1)) (hrow.below ((hbw.trans (hb.mono hbw.size)).mono hB1)) (Nat.le_trans hB1 (hbw.trans (hb.mono hbw.size)).size) hl hca hcr hrl hr (hkz a1 hm1))
  obtain ⟨P2, p2, Q2, q2, hc2, hx21⟩ := hca9 2 (by omega)
  obtain ⟨a2, ha2⟩ : ∃ a, e.ar[2]'(by omega) = a := ⟨_, rfl⟩
  have hm2 : a2 ∈ e.ar := by rw [← ha2]; exact List.getElem_mem _
  rw [ha2] at hc2 hx21
  have HC2 := Lib.hid hc2
  have HE2 := Lib.hid (show ∀ w', Below W.heap.size W w' → Calls Tryz.prog 20 #[.pointer (some ⟨gs, 0, none⟩), .agg #[.int .i64 a2.k, .int .i64 a2.op, .string a2.nm, .int .i64 a2.v.k, .int .i64 a2.v.n, .string a2.v.s, .slice P2 a2.v.l.length p2, .slice Q2 a2.ar.length q2], .slice Aa at_.length ca, .slice R row.length cr] w' fun en w'' => (∃ x, en = .returned x ∧ VRet w'' B0 (a2.val S at_ row) x) ∧ Below w'.heap.size w' w'' from fun w' hb => hI a2 hm2 at_ row Aa R ca cr B1 _ w' (HW.out.keep (hbw.trans (hb.mono hbw.size))) (hx21.keep ((hbw.trans (hb.mono hbw.size)).mono hB0)) (hat.below ((hbw.trans (hb.mono hbw.size)).mono hB1)) (hrow.below ((hbw.trans (hb.mono hbw.size)).mono hB1)) (Nat.le_trans hB1 (hbw.trans (hb.mono hbw.size)).size) hl hca hcr hrl hr (hkz a2 hm2))
  obtain ⟨q, hq⟩ : ∃ q, isT (a0.val S at_ row) = q := ⟨_, rfl⟩
  have HVAL := Lib.hid (show e.val S at_ row = if q then a1.val S at_ row else a2.val S at_ row by
    rw [val_eq, if_neg (by omega), if_neg (by omega), if_neg (by omega), if_neg (by omega), if_neg (by omega), if_pos ho, argAt_map (by omega), argAt_map (by omega), argAt_map (by omega), ha0, ha1, ha2, hq])
  have HIT := Lib.hid (show ∀ W' A c, Calls Tryz.prog 51 #[.agg #[.int .i64 (a0.val S at_ row).k, .int .i64 (a0.val S at_ row).n, .string (a0.val S at_ row).s, .slice A (a0.val S at_ row).l.length c]] W' fun en w'' => en = .returned (.bool q) ∧ Below W'.heap.size W' w'' from fun W' A c => by
    have h := isTrue_any (a0.val S at_ row).k (a0.val S at_ row).n (a0.val S at_ row).s (.slice A (a0.val S at_ row).l.length c) W'
    rw [show (decide ((a0.val S at_ row).k = 7) && decide ((a0.val S at_ row).n = 1)) = q from hq] at h
    exact h)
  have ec0 : W.cell? ⟨w.heap.size, 0, none⟩ = some (.int .i64 4) := by have h := HBV.out.cell 0; rwa [show (#[.int .i64 e.k, .int .i64 e.op, .string e.nm, .int .i64 e.v.k, .int .i64 e.v.n, .string e.v.s, .slice X1 e.v.l.length x1, .slice (some ⟨b, o, none⟩) e.ar.length x2] : Array Value)[0]? = some (.int .i64 4) from by rw [hk]; rfl] at h
  have ec1 : W.cell? ⟨w.heap.size, 1, none⟩ = some (.int .i64 26) := by have h := HBV.out.cell 1; rwa [show (#[.int .i64 e.k, .int .i64 e.op, .string e.nm, .int .i64 e.v.k, .int .i64 e.v.n, .string e.v.s, .slice X1 e.v.l.length x1, .slice (some ⟨b, o, none⟩) e.ar.length x2] : Array Value)[1]? = some (.int .i64 26) from by rw [ho]; rfl] at h
  have ec7 : W.cell? ⟨w.heap.size, 7, none⟩ = some (.slice (some ⟨b, o, none⟩) e.ar.length x2) := HBV.out.cell 7
  rw [hal] at ec7
  have g00 : W.cell? ⟨b, o, none⟩ = some (.int .i64 a0.k) := (HC0.out.below hbw hbW).f0
  have g01 : W.cell? ⟨b, o + 1, none⟩ = some (.int .i64 a0.op) := (HC0.out.below hbw hbW).f1
  have g02 : W.cell? ⟨b, o + 2, none⟩ = some (.string a0.nm) := (HC0.out.below hbw hbW).f2
  have g03 : W.cell? ⟨b, o + 3, none⟩ = some (.int .i64 a0.v.k) := (HC0.out.below hbw hbW).f3
  have g04 : W.cell? ⟨b, o + 4, none⟩ = some (.int .i64 a0.v.n) := (HC0.out.below hbw hbW).f4
  have g05 : W.cell? ⟨b, o + 5, none⟩ = some (.string a0.v.s) := (HC0.out.below hbw hbW).f5
  have g06 : W.cell? ⟨b, o + 6, none⟩ = some (.slice P0 a0.v.l.length p0) := (HC0.out.below hbw hbW).f6
  have g07 : W.cell? ⟨b, o + 7, none⟩ = some (.slice Q0 a0.ar.length q0) := (HC0.out.below hbw hbW).f7
  clear hk ho hal hx0 hr0 hi0 hat hrow hr hkd hkz hca9 hc0 hx01 ha0 hm0 hc1 hx11 ha1 hm1 hc2 hx21 ha2 hm2
  clear hq
  obtain ⟨n, hn1⟩ : ∃ n, row.length = n := ⟨_, rfl⟩
  rw [hl, hn1]
  rw [hn1] at hl hcr hrl
  rw [hl] at hca
  rw [hl, hn1] at HE0
  rw [hl, hn1] at HE1
  rw [hl, hn1] at HE2
  have hbr := Below.refl W.heap.size W
  cases q
  · have HVAL := HVAL
    have HV := Lib.hid (show e.val S at_ row = a2.val S at_ row by rw [HVAL.out]; rfl)
    go_enter Tryz.func20, Tryz.ntmps20
    go_upto_region 1 with (fail)
    rw [← hW]
    clear hW hsz
    go_wp2_with (first
      | (go_at_call 20; (with_reducible refine (HE0.out _ hbr).mono ?_); rintro e5 w5 ⟨⟨x, rfl, cs5, rfl, ⟨A5, c5, rfl, hr5⟩, hs5, hl5⟩, hb5⟩; have hq5 := hbr.trans (hb5.mono hbr.size))
      | (go_at_call 51; (with_reducible refine (HIT.out _ _ _).mono ?_); rintro e6 w6 ⟨rfl, hb6⟩; have hq6 := hq5.trans (hb6.mono hq5.size); have ec7 := Below.cell_of hq6 ec7; have g20 : w6.cell? ⟨b, o + 16, none⟩ = some (.int .i64 a2.k) := ((HC2.out.below hbw hbW).below hq6 (Nat.lt_of_lt_of_le hbW hbw.size)).f0; have g21 : w6.cell? ⟨b, o + 16 + 1, none⟩ = some (.int .i64 a2.op) := ((HC2.out.below hbw hbW).below hq6 (Nat.lt_of_lt_of_le hbW hbw.size)).f1; have g22 : w6.cell? ⟨b, o + 16 + 2, none⟩ = some (.string a2.nm) := ((HC2.out.below hbw hbW).below hq6 (Nat.lt_of_lt_of_le hbW hbw.size)).f2; have g23 : w6.cell? ⟨b, o + 16 + 3, none⟩ = some (.int .i64 a2.v.k) := ((HC2.out.below hbw hbW).below hq6 (Nat.lt_of_lt_of_le hbW hbw.size)).f3; have g24 : w6.cell? ⟨b, o + 16 + 4, none⟩ = some (.int .i64 a2.v.n) := ((HC2.out.below hbw hbW).below hq6 (Nat.lt_of_lt_of_le hbW hbw.size)).f4; have g25 : w6.cell? ⟨b, o + 16 + 5, none⟩ = some (.string a2.v.s) := ((HC2.out.below hbw hbW).below hq6 (Nat.lt_of_lt_of_le hbW hbw.size)).f5; have g26 : w6.cell? ⟨b, o + 16 + 6, none⟩ = some (.slice P2 a2.v.l.length p2) := ((HC2.out.below hbw hbW).below hq6 (Nat.lt_of_lt_of_le hbW hbw.size)).f6; have g27 : w6.cell? ⟨b, o + 16 + 7, none⟩ = some (.slice Q2 a2.ar.length q2) := ((HC2.out.below hbw hbW).below hq6 (Nat.lt_of_lt_of_le hbW hbw.size)).f7)
      | (go_at_call 20; (with_reducible refine (HE2.out _ hq6).mono ?_); rintro e7 w7 ⟨⟨x, rfl, cs7, rfl, ⟨A7, c7, rfl, hr7⟩, hs7, hl7⟩, hb7⟩; have hq7 := hq6.trans (hb7.mono hq6.size); have hbw7 := hbw.trans (hq7.mono hbw.size); have B0 := HBR.out.below hq7 HBR.out.lt; obtain ⟨r0, s0, r1, s1, r2, s2, r3, s3⟩ := Blk.z4 B0))
    exact end4 Tryz.results20 rfl B0 hbw7 (Nat.le_succ _) (fun W9 hW9 => ⟨⟨_, rfl, by rw [HV.out]; exact ⟨_, rfl, (VAt.back ⟨⟨A7, c7, rfl, hr7⟩, hs7, hl7⟩ hbw7 hB0).keep hW9 hB0⟩⟩, hW9⟩)
  · have HVAL := HVAL
    have HV := Lib.hid (show e.val S at_ row = a1.val S at_ row by rw [HVAL.out]; rfl)
    go_enter Tryz.func20, Tryz.ntmps20
    go_upto_region 1 with (fail)
    rw [← hW]
    clear hW hsz
    go_wp2_with (first
      | (go_at_call 20; (with_reducible refine (HE0.out _ hbr).mono ?_); rintro e5 w5 ⟨⟨x, rfl, cs5, rfl, ⟨A5, c5, rfl, hr5⟩, hs5, hl5⟩, hb5⟩; have hq5 := hbr.trans (hb5.mono hbr.size))
      | (go_at_call 51; (with_reducible refine (HIT.out _ _ _).mono ?_); rintro e6 w6 ⟨rfl, hb6⟩; have hq6 := hq5.trans (hb6.mono hq5.size); have ec7 := Below.cell_of hq6 ec7; have g10 : w6.cell? ⟨b, o + 8, none⟩ = some (.int .i64 a1.k) := ((HC1.out.below hbw hbW).below hq6 (Nat.lt_of_lt_of_le hbW hbw.size)).f0; have g11 : w6.cell? ⟨b, o + 8 + 1, none⟩ = some (.int .i64 a1.op) := ((HC1.out.below hbw hbW).below hq6 (Nat.lt_of_lt_of_le hbW hbw.size)).f1; have g12 : w6.cell? ⟨b, o + 8 + 2, none⟩ = some (.string a1.nm) := ((HC1.out.below hbw hbW).below hq6 (Nat.lt_of_lt_of_le hbW hbw.size)).f2; have g13 : w6.cell? ⟨b, o + 8 + 3, none⟩ = some (.int .i64 a1.v.k) := ((HC1.out.below hbw hbW).below hq6 (Nat.lt_of_lt_of_le hbW hbw.size)).f3; have g14 : w6.cell? ⟨b, o + 8 + 4, none⟩ = some (.int .i64 a1.v.n) := ((HC1.out.below hbw hbW).below hq6 (Nat.lt_of_lt_of_le hbW hbw.size)).f4; have g15 : w6.cell? ⟨b, o + 8 + 5, none⟩ = some (.string a1.v.s) := ((HC1.out.below hbw hbW).below hq6 (Nat.lt_of_lt_of_le hbW hbw.size)).f5; have g16 : w6.cell? ⟨b, o + 8 + 6, none⟩ = some (.slice P1 a1.v.l.length p1) := ((HC1.out.below hbw hbW).below hq6 (Nat.lt_of_lt_of_le hbW hbw.size)).f6; have g17 : w6.cell? ⟨b, o + 8 + 7, none⟩ = some (.slice Q1 a1.ar.length q1) := ((HC1.out.below hbw hbW).below hq6 (Nat.lt_of_lt_of_le hbW hbw.size)).f7)
      | (go_at_call 20; (with_reducible refine (HE1.out _ hq6).mono ?_); rintro e7 w7 ⟨⟨x, rfl, cs7, rfl, ⟨A7, c7, rfl, hr7⟩, hs7, hl7⟩, hb7⟩; have hq7 := hq6.trans (hb7.mono hq6.size); have hbw7 := hbw.trans (hq7.mono hbw.size); have B0 := HBR.out.below hq7 HBR.out.lt; obtain ⟨r0, s0, r1, s1, r2, s2, r3, s3⟩ := Blk.z4 B0))
    exact end4 Tryz.results20 rfl B0 hbw7 (Nat.le_succ _) (fun W9 hW9 => ⟨⟨_, rfl, by rw [HV.out]; exact ⟨_, rfl, (VAt.back ⟨⟨A7, c7, rfl, hr7⟩, hs7, hl7⟩ hbw7 hB0).keep hW9 hB0⟩⟩, hW9⟩)
theorem eval_else {S : SceneD} (_hS : ScOk S) (_hSB : (∀ c ∈ S.cells, c.loops.length ≤ 1048576) ∧ (∀ c ∈ S.loops, c.loops.length ≤ 1048576)) {B0 gs m1 m2 m3 m4 : Nat} {kv1 kv2 kv3 kv4 : List (ByteArray × Value)} {e : Ex} (hf : e.fault = 0) (hI : ∀ a ∈ e.ar, EvSpec S B0 gs m1 m2 m3 m4 kv1 kv2 kv3 kv4 a) (hk : e.k = 4) (ho : e.op = 27) : EvSpec S B0 gs m1 m2 m3 m4 kv1 kv2 kv3 kv4 e := by
  intro at_ row Aa R ca cr B1 cs w hw hx hat hrow hB1 hl hca hcr hrl hr hkd
  have hB0 := hw.le
  have HW := Lib.hid hw
  have hgs := hw.si.blk.lt
  obtain ⟨hn0, hs0, hl0, ha0, hx0, hr0, hi0⟩ := hx
  rename_i X1 x1 X2 x2 cs0
  have HXS := Lib.hid (And.intro hx0 (And.intro hs0 hl0))
  have HAR := Lib.hid (And.intro hr0 hi0)
  have HAT := Lib.hid hat
  have HROW := Lib.hid hrow
  have HR := Lib.hid hr
  have HKD := Lib.hid hkd
  obtain ⟨W, hW, hbw, BV, BR, hsz⟩ := box2 w 27 24 #[.int .i64 e.k, .int .i64 e.op, .string e.nm, .int .i64 e.v.k, .int .i64 e.v.n, .string e.v.s, .slice X1 e.v.l.length x1, .slice X2 e.ar.length x2] #[.int .i64 0, .int .i64 0, .string ⟨#[]⟩, .slice none 0 0]
  have HBV := Lib.hid BV
  have HBR := Lib.hid BR
  rw [show exCells e X1 x1 X2 x2 = [.int .i64 e.k, .int .i64 e.op, .string e.nm, .int .i64 e.v.k, .int .i64 e.v.n, .string e.v.s, .slice X1 e.v.l.length x1, .slice X2 e.ar.length x2] from rfl]
  change Calls _ _ #[_, .agg #[.int .i64 e.k, .int .i64 e.op, .string e.nm, .int .i64 e.v.k, .int .i64 e.v.n, .string e.v.s, .slice X1 e.v.l.length x1, .slice X2 e.ar.length x2], _, _] _ _
  have hal : e.ar.length = 2 := by have h := (partOk (fault_part hf)).a4 hk; rw [ho, show arOf 27 = (2, 2) from by decide] at h; omega
  have hkz := (kind_4 hk hkd).1
  obtain ⟨b, o, hA2, hb9, hca9⟩ := ExAt.args hr0 hi0 (by omega)
  subst hA2
  have hbW := Nat.lt_of_lt_of_le hb9 hB0
  obtain ⟨P0, p0, Q0, q0, hc0, hx01⟩ := hca9 0 (by omega)
  obtain ⟨a0, ha0⟩ : ∃ a, e.ar[0]'(by omega) = a := ⟨_, rfl⟩
  have hm0 : a0 ∈ e.ar := by rw [← ha0]; exact List.getElem_mem _
  rw [ha0] at hc0 hx01
  have HC0 := Lib.hid hc0
  have HE0 := Lib.hid (show ∀ w', Below W.heap.size W w' → Calls Tryz.prog 20 #[.pointer (some ⟨gs, 0, none⟩), .agg #[.int .i64 a0.k, .int .i64 a0.op, .string a0.nm, .int .i64 a0.v.k, .int .i64 a0.v.n, .string a0.v.s, .slice P0 a0.v.l.length p0, .slice Q0 a0.ar.length q0], .slice Aa at_.length ca, .slice R row.length cr] w' fun en w'' => (∃ x, en = .returned x ∧ VRet w'' B0 (a0.val S at_ row) x) ∧ Below w'.heap.size w' w'' from fun w' hb => hI a0 hm0 at_ row Aa R ca cr B1 _ w' (HW.out.keep (hbw.trans (hb.mono hbw.size))) (hx01.keep ((hbw.trans (hb.mono hbw.size)).mono hB0)) (hat.below ((hbw.trans (hb.mono hbw.size)).mono hB1)) (hrow.below ((hbw.trans (hb.mono hbw.size)).mono hB1)) (Nat.le_trans hB1 (hbw.trans (hb.mono hbw.size)).size) hl hca hcr hrl hr (hkz a0 hm0))
  obtain ⟨P1, p1, Q1, q1, hc1, hx11⟩ := hca9 1 (by omega)
  obtain ⟨a1, ha1⟩ : ∃ a, e.ar[1]'(by omega) = a := ⟨_, rfl⟩
  have hm1 : a1 ∈ e.ar := by rw [← ha1]; exact List.getElem_mem _
  rw [ha1] at hc1 hx11
  have HC1 := Lib.hid hc1
  have HE1 := Lib.hid (show ∀ w', Below W.heap.size W w' → Calls Tryz.prog 20 #[.pointer (some ⟨gs, 0, none⟩), .agg #[.int .i64 a1.k, .int .i64 a1.op, .string a1.nm, .int .i64 a1.v.k, .int .i64 a1.v.n, .string a1.v.s, .slice P1 a1.v.l.length p1, .slice Q1 a1.ar.length q1], .slice Aa at_.length ca, .slice R row.length cr] w' fun en w'' => (∃ x, en = .returned x ∧ VRet w'' B0 (a1.val S at_ row) x) ∧ Below w'.heap.size w' w'' from fun w' hb => hI a1 hm1 at_ row Aa R ca cr B1 _ w' (HW.out.keep (hbw.trans (hb.mono hbw.size))) (hx11.keep ((hbw.trans (hb.mono hbw.size)).mono hB0)) (hat.below ((hbw.trans (hb.mono hbw.size)).mono hB1)) (hrow.below ((hbw.trans (hb.mono hbw.size)).mono hB1)) (Nat.le_trans hB1 (hbw.trans (hb.mono hbw.size)).size) hl hca hcr hrl hr (hkz a1 hm1))
  obtain ⟨q, hq⟩ : ∃ q, missV (a0.val S at_ row) = q := ⟨_, rfl⟩
  have HVAL := Lib.hid (show e.val S at_ row = if q then a1.val S at_ row else a0.val S at_ row by
    rw [val_eq, if_neg (by omega), if_neg (by omega), if_neg (by omega), if_neg (by omega), if_neg (by omega), if_neg (by omega), if_pos ho, argAt_map (by omega), argAt_map (by omega), ha0, ha1, hq])
  have HIT := Lib.hid (show ∀ W' A c, Calls Tryz.prog 52 #[.agg #[.int .i64 (a0.val S at_ row).k, .int .i64 (a0.val S at_ row).n, .string (a0.val S at_ row).s, .slice A (a0.val S at_ row).l.length c]] W' fun en w'' => en = .returned (.bool q) ∧ Below W'.heap.size W' w'' from fun W' A c => by
    have h := missing_any (a0.val S at_ row).k (a0.val S at_ row).n (a0.val S at_ row).s (.slice A (a0.val S at_ row).l.length c) W'
    rw [show decide ((a0.val S at_ row).k = 0) = q from hq] at h
    exact h)
  have ec0 : W.cell? ⟨w.heap.size, 0, none⟩ = some (.int .i64 4) := by have h := HBV.out.cell 0; rwa [show (#[.int .i64 e.k, .int .i64 e.op, .string e.nm, .int .i64 e.v.k, .int .i64 e.v.n, .string e.v.s, .slice X1 e.v.l.length x1, .slice (some ⟨b, o, none⟩) e.ar.length x2] : Array Value)[0]? = some (.int .i64 4) from by rw [hk]; rfl] at h
  have ec1 : W.cell? ⟨w.heap.size, 1, none⟩ = some (.int .i64 27) := by have h := HBV.out.cell 1; rwa [show (#[.int .i64 e.k, .int .i64 e.op, .string e.nm, .int .i64 e.v.k, .int .i64 e.v.n, .string e.v.s, .slice X1 e.v.l.length x1, .slice (some ⟨b, o, none⟩) e.ar.length x2] : Array Value)[1]? = some (.int .i64 27) from by rw [ho]; rfl] at h
  have ec7 : W.cell? ⟨w.heap.size, 7, none⟩ = some (.slice (some ⟨b, o, none⟩) e.ar.length x2) := HBV.out.cell 7
  rw [hal] at ec7
  have g00 : W.cell? ⟨b, o, none⟩ = some (.int .i64 a0.k) := (HC0.out.below hbw hbW).f0
  have g01 : W.cell? ⟨b, o + 1, none⟩ = some (.int .i64 a0.op) := (HC0.out.below hbw hbW).f1
  have g02 : W.cell? ⟨b, o + 2, none⟩ = some (.string a0.nm) := (HC0.out.below hbw hbW).f2
  have g03 : W.cell? ⟨b, o + 3, none⟩ = some (.int .i64 a0.v.k) := (HC0.out.below hbw hbW).f3
  have g04 : W.cell? ⟨b, o + 4, none⟩ = some (.int .i64 a0.v.n) := (HC0.out.below hbw hbW).f4
  have g05 : W.cell? ⟨b, o + 5, none⟩ = some (.string a0.v.s) := (HC0.out.below hbw hbW).f5
  have g06 : W.cell? ⟨b, o + 6, none⟩ = some (.slice P0 a0.v.l.length p0) := (HC0.out.below hbw hbW).f6
  have g07 : W.cell? ⟨b, o + 7, none⟩ = some (.slice Q0 a0.ar.length q0) := (HC0.out.below hbw hbW).f7
  clear hk ho hal hx0 hr0 hi0 hat hrow hr hkd hkz hca9 hc0 hx01 ha0 hm0 hc1 hx11 ha1 hm1
  clear hq
  obtain ⟨n, hn1⟩ : ∃ n, row.length = n := ⟨_, rfl⟩
  rw [hl, hn1]
  rw [hn1] at hl hcr hrl
  rw [hl] at hca
  rw [hl, hn1] at HE0
  rw [hl, hn1] at HE1
  have hbr := Below.refl W.heap.size W
  go_enter Tryz.func20, Tryz.ntmps20
  go_upto_region 1 with (fail)
  rw [← hW]
  clear hW hsz
  go_upto_region 24 with (go_at_call 20; (with_reducible refine (HE0.out _ hbr).mono ?_); rintro e5 w5 ⟨⟨x, rfl, cs5, rfl, ⟨A5, c5, rfl, hr5⟩, hs5, hl5⟩, hb5⟩)
  obtain ⟨W6, hw6⟩ : ∃ w6, w6 = w5.alloc (.cells #[.int .i64 (a0.val S at_ row).k, .int .i64 (a0.val S at_ row).n, .string (a0.val S at_ row).s, .slice A5 (a0.val S at_ row).l.length c5] 24 (0, 0)) := ⟨_, rfl⟩
  rw [← hw6]
  have hb56 : Below w5.heap.size w5 W6 := hw6 ▸ below_a w5 _
  have B6 : Blk W6 w5.heap.size 24 #[.int .i64 (a0.val S at_ row).k, .int .i64 (a0.val S at_ row).n, .string (a0.val S at_ row).s, .slice A5 (a0.val S at_ row).l.length c5] := hw6 ▸ Blk.new w5 _ _
  clear hw6
  have hr5 := hr5.below (hb56.mono (Nat.le_trans hB0 (hbw.trans (hb5.mono hbw.size)).size))
  have HB6 := Lib.hid B6
  have hq5 := hb5.trans (hb56.mono hb5.size)
  obtain ⟨z0, -, z1, -, z2, -, z3, -⟩ := Blk.z4 B6
  clear B6 hb56
  cases q
  · have HV := Lib.hid (show e.val S at_ row = a0.val S at_ row by rw [HVAL.out]; rfl)
    go_wp2_with (go_at_call 52; (with_reducible refine (HIT.out _ _ _).mono ?_); rintro e6 w6 ⟨rfl, hb6⟩; have hq6 := hq5.trans (hb6.mono hq5.size); have hbw6 := hbw.trans (hq6.mono hbw.size); have B0 := HBR.out.below hq6 HBR.out.lt; obtain ⟨r0, s0, r1, s1, r2, s2, r3, s3⟩ := Blk.z4 B0; obtain ⟨z0, -, z1, -, z2, -, z3, -⟩ := Blk.z4 (HB6.out.below hb6 HB6.out.lt))
    have hr7 := hr5.below (hb6.mono (Nat.le_trans hB0 (hbw.trans (hq5.mono hbw.size)).size))
    exact end4 Tryz.results20 rfl B0 hbw6 (Nat.le_succ _) (fun W9 hW9 => ⟨⟨_, rfl, by rw [HV.out]; exact ⟨_, rfl, (VAt.back ⟨⟨A5, c5, rfl, hr7⟩, hs5, hl5⟩ hbw6 hB0).keep hW9 hB0⟩⟩, hW9⟩)
  · have HV := Lib.hid (show e.val S at_ row = a1.val S at_ row by rw [HVAL.out]; rfl)
    have ec7 := Below.cell_of hq5 ec7
    go_wp2_with (first
      | (go_at_call 52; (with_reducible refine (HIT.out _ _ _).mono ?_); rintro e6 w6 ⟨rfl, hb6⟩; have hq6 := hq5.trans (hb6.mono hq5.size); have ec7 := Below.cell_of hb6 ec7; have g10 : w6.cell? ⟨b, o + 8, none⟩ = some (.int .i64 a1.k) := ((HC1.out.below hbw hbW).below hq6 (Nat.lt_of_lt_of_le hbW hbw.size)).f0; have g11 : w6.cell? ⟨b, o + 8 + 1, none⟩ = some (.int .i64 a1.op) := ((HC1.out.below hbw hbW).below hq6 (Nat.lt_of_lt_of_le hbW hbw.size)).f1; have g12 : w6.cell? ⟨b, o + 8 + 2, none⟩ = some (.string a1.nm) := ((HC1.out.below hbw hbW).below hq6 (Nat.lt_of_lt_of_le hbW hbw.size)).f2; have g13 : w6.cell? ⟨b, o + 8 + 3, none⟩ = some (.int .i64 a1.v.k) := ((HC1.out.below hbw hbW).below hq6 (Nat.lt_of_lt_of_le hbW hbw.size)).f3; have g14 : w6.cell? ⟨b, o + 8 + 4, none⟩ = some (.int .i64 a1.v.n) := ((HC1.out.below hbw hbW).below hq6 (Nat.lt_of_lt_of_le hbW hbw.size)).f4; have g15 : w6.cell? ⟨b, o + 8 + 5, none⟩ = some (.string a1.v.s) := ((HC1.out.below hbw hbW).below hq6 (Nat.lt_of_lt_of_le hbW hbw.size)).f5; have g16 : w6.cell? ⟨b, o + 8 + 6, none⟩ = some (.slice P1 a1.v.l.length p1) := ((HC1.out.below hbw hbW).below hq6 (Nat.lt_of_lt_of_le hbW hbw.size)).f6; have g17 : w6.cell? ⟨b, o + 8 + 7, none⟩ = some (.slice Q1 a1.ar.length q1) := ((HC1.out.below hbw hbW).below hq6 (Nat.lt_of_lt_of_le hbW hbw.size)).f7)
      | (go_at_call 20; (with_reducible refine (HE1.out _ hq6).mono ?_); rintro e7 w7 ⟨⟨x, rfl, cs7, rfl, ⟨A7, c7, rfl, hr7⟩, hs7, hl7⟩, hb7⟩; have hq7 := hq6.trans (hb7.mono hq6.size); have hbw7 := hbw.trans (hq7.mono hbw.size); have B0 := HBR.out.below hq7 HBR.out.lt; obtain ⟨r0, s0, r1, s1, r2, s2, r3, s3⟩ := Blk.z4 B0))
    exact end4 Tryz.results20 rfl B0 hbw7 (Nat.le_succ _) (fun W9 hW9 => ⟨⟨_, rfl, by rw [HV.out]; exact ⟨_, rfl, (VAt.back ⟨⟨A7, c7, rfl, hr7⟩, hs7, hl7⟩ hbw7 hB0).keep hW9 hB0⟩⟩, hW9⟩)
end Go.Proofs.YtpanbeoelbhhgaaGreatDoor
