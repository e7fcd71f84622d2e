/- Aggregates: over. · What is asked about a cell; told. -/
import Derived.Test.YtpanbeoelbhhgaaGreatDoorY22
import Derived.Test.YtpanbeoelbhhgaaGreatDoorY23
import Derived.Test.YtpanbeoelbhhgaaGreatDoorY21
namespace Go.Proofs.YtpanbeoelbhhgaaGreatDoor
open Go.RowKit
attribute [local go_sem ↓] Go.wp_at_zero Go.wp_at_succ
set_option maxHeartbeats 4000000
set_option maxRecDepth 100000
theorem sum_bd : ∀ l : List Val, (∀ v ∈ l, nB v.n) → -((l.length : Int) * 999999999999999) ≤ sumN l ∧ sumN l ≤ (l.length : Int) * 999999999999999
  | [], _ => by unfold sumN; simp
  | v :: r, h => by
    have h1 := sum_bd r fun u hu => h u (List.mem_cons_of_mem _ hu)
    have h2 := h v (List.mem_cons_self ..)
    unfold nB at h2
    unfold sumN at h1 ⊢
    simp only [List.map_cons, List.sum_cons, List.length_cons]
    omega
theorem sum_step (l : List Val) (k : Nat) (hk : k < l.length) : sumN (l.take (k + 1)) = sumN (l.take k) + l[k].n := by
  unfold sumN
  rw [← List.take_append_getElem hk, List.map_append, List.sum_append]
  simp
theorem agg_any (S : SceneD) (hS : ScOk S) (B0 gs m1 m2 m3 m4 : Nat) (kv1 kv2 kv3 kv4 : List (ByteArray × Value)) (e a : Ex) (d : NestD) (ka : Int) (row : List Int) (R : Option Addr) (cr B1 : Nat) (cs : List Value) (w : World) (hI : EvSpec S B0 gs m1 m2 m3 m4 kv1 kv2 kv3 kv4 a) (hw : EvW w S B0 gs m1 m2 m3 m4 kv1 kv2 kv3 kv4) (hx : ExAt w B0 e cs) (har : e.ar = [a]) (ho : 1 ≤ e.op ∧ e.op ≤ 6) (hf : S.loops.find? (fun n => decide (n.nm = e.nm)) = some d) (hn : noSp e.nm) (hnz : e.nm.size ≤ 1000000) (hr : codesOk row) (hrow : Reads w B1 1 R row.length (numV .i64 row)) (hB1 : B1 ≤ w.heap.size) (hc : row.length ≤ cr) (hd : d.loops.length ≤ row.length) (hdm : d.loops.length ≤ 1048576) (hrl : row.length ≤ 1048577) (hkd : (a.kind S.cells S.loops (d.loops ++ [d.nm])).2 = 0) (hok : ∀ row', okV ka (a.val S (d.loops ++ [d.nm]) row')) :
    Calls Tryz.prog 49 #[.pointer (some ⟨gs, 0, none⟩), .agg cs.toArray, .slice R row.length cr] w fun en w' => (∃ x, en = .returned x ∧ VRet w' B0 (overV e.op (overVals S e.ar (d.loops ++ [d.nm]) (row.take d.loops.length) (findR S.rows e.nm (row.take d.loops.length)))) x) ∧ Below w.heap.size w w' := by
  have hB0 := hw.le
  have HW := Lib.hid hw
  have hgs := hw.si.blk.lt
  obtain ⟨hn0, hs0, hl0, ha0, hx0, hr0, hi0⟩ := hx
  rename_i X1 x1 X2 x2 cs0
  have h1 : 0 < e.ar.length := by rw [har]; exact Nat.zero_lt_one
  obtain ⟨ad, ci, rfl, hb, hci, hcell⟩ := ExAt.arg hr0 hi0 h1
  have hea : e.ar[0] = a := by simp only [har]; rfl
  rw [hea] at hci
  have HCIK := hci
  obtain ⟨hn1, hs1, hl1, ha1, hx1, hr1, hi1⟩ := hci
  rename_i A3 c3 A4 c4 cs1
  have hcell' : ∀ j u, (exCells a A3 c3 A4 c4)[j]? = some u → w.cell? (ad.add j) = some u := fun j u hu => by have h := hcell j u hu; rwa [Nat.zero_mul, add_zero_ad] at h
  have fd0 : w.cell? (ad) = some (.int .i64 a.k) := hcell' 0 _ rfl
  have fd1 : w.cell? ⟨(ad).block, (ad).off + 1, none⟩ = some (.int .i64 a.op) := hcell' 1 _ rfl
  have fd2 : w.cell? ⟨(ad).block, (ad).off + 2, none⟩ = some (.string a.nm) := hcell' 2 _ rfl
  have fd3 : w.cell? ⟨(ad).block, (ad).off + 3, none⟩ = some (.int .i64 a.v.k) := hcell' 3 _ rfl
  have fd4 : w.cell? ⟨(ad).block, (ad).off + 4, none⟩ = some (.int .i64 a.v.n) := hcell' 4 _ rfl
  have fd5 : w.cell? ⟨(ad).block, (ad).off + 5, none⟩ = some (.string a.v.s) := hcell' 5 _ rfl
  have fd6 : w.cell? ⟨(ad).block, (ad).off + 6, none⟩ = some (.slice A3 a.v.l.length c3) := hcell' 6 _ rfl
  have fd7 : w.cell? ⟨(ad).block, (ad).off + 7, none⟩ = some (.slice A4 a.ar.length c4) := hcell' 7 _ rfl
  have HFC := Lib.hid (show w.cell? ad = some (.int .i64 a.k) ∧ w.cell? ⟨ad.block, ad.off + 1, none⟩ = some (.int .i64 a.op) ∧ w.cell? ⟨ad.block, ad.off + 2, none⟩ = some (.string a.nm) ∧ w.cell? ⟨ad.block, ad.off + 3, none⟩ = some (.int .i64 a.v.k) ∧ w.cell? ⟨ad.block, ad.off + 4, none⟩ = some (.int .i64 a.v.n) ∧ w.cell? ⟨ad.block, ad.off + 5, none⟩ = some (.string a.v.s) ∧ w.cell? ⟨ad.block, ad.off + 6, none⟩ = some (.slice A3 a.v.l.length c3) ∧ w.cell? ⟨ad.block, ad.off + 7, none⟩ = some (.slice A4 a.ar.length c4) from ⟨fd0, fd1, fd2, fd3, fd4, fd5, fd6, fd7⟩)
  have HCI := Lib.hid HCIK
  clear hn1 hs1 hl1 ha1 hx1 hr1 hi1 HCIK hcell' fd0 fd1 fd2 fd3 fd4 fd5 fd6 fd7
  have hear : e.ar.length = 1 := by rw [har]; rfl
  -- the nest
  obtain ⟨dn, ds, hg, hda, hdl, hf2⟩ : ∃ dn ds, getK kv2 e.nm = some (.agg ds.toArray) ∧ NestAt w B0 dn ds ∧ dn ∈ S.loops ∧ S.loops.find? (fun c => decide (c.nm = e.nm)) = some dn := by
    rcases nestF_map hw.si.ty.nn e.nm with ⟨-, h⟩ | h
    · rw [hf] at h; cases h
    · exact h
  obtain rfl : dn = d := by rw [hf] at hf2; exact (Option.some.inj hf2).symm
  obtain ⟨⟨N1, n1, rfl, hdx, hdc⟩, hd1, hd2, hd3⟩ := hda
  -- the rows
  have htk : (row.take dn.loops.length).length = dn.loops.length := by rw [List.length_take]; omega
  have hr2 : codesOk (row.take dn.loops.length) := fun n h => hr n (List.mem_of_mem_take h)
  obtain ⟨Q1, q1, hgr, hqx, hq9, hqc⟩ := rows_get hS hw.si.kr hn hr2
  obtain ⟨outer, hout⟩ : ∃ o, row.take dn.loops.length = o := ⟨_, rfl⟩
  rw [hout] at hgr hqx hq9 hqc htk hr2 ⊢
  obtain ⟨nums, hnums⟩ : ∃ o, findR S.rows e.nm outer = o := ⟨_, rfl⟩
  rw [hnums] at hgr hqx hq9 hqc ⊢
  obtain ⟨vals, hvals⟩ : ∃ vs : List Val, nums.map (fun n => a.val S (dn.loops ++ [dn.nm]) (outer ++ [n])) = vs := ⟨_, rfl⟩
  rw [show overVals S e.ar (dn.loops ++ [dn.nm]) outer nums = vals by rw [har, overVals]; exact hvals]
  have hvl : vals.length = nums.length := by rw [← hvals]; simp
  have HVV := Lib.hid (show ∀ k (hk : k < nums.length) (hk' : k < vals.length), vals[k] = a.val S (dn.loops ++ [dn.nm]) (outer ++ [nums[k]]) from fun k hk hk' => by simp [← hvals])
  have HVN := Lib.hid (show ∀ v ∈ vals, nB v.n ∧ v.s.size ≤ 1000000 ∧ v.l.length ≤ 1000000 from fun v hv => by
    rw [← hvals] at hv
    obtain ⟨n, -, rfl⟩ := List.mem_map.1 hv
    exact ok_small (hok _))
  have HCO := Lib.hid (show ∀ n ∈ nums, codesOk (outer ++ [n]) from fun n hn m hm => by
    rcases List.mem_append.1 hm with h | h
    · exact hr2 m h
    · rw [List.mem_singleton] at h; rw [h]; exact hqc n hn)
  have HKD := Lib.hid hkd
  obtain ⟨key, hkey⟩ : ∃ k : ByteArray, ⟨(rowKeyL e.nm.data.toList outer).toArray⟩ = k := ⟨_, rfl⟩
  rw [hkey] at hgr
  have hkz : key.size ≤ maxLen := by
    have h := rowKeyL_len e.nm.data.toList outer hr2
    have e1 : key.size = (rowKeyL e.nm.data.toList outer).length := by rw [← hkey]; show ((rowKeyL e.nm.data.toList outer).toArray).size = _; simp
    have e2 : e.nm.data.toList.length = e.nm.size := by simp
    unfold maxLen; omega
  obtain ⟨nl, hnl2⟩ : ∃ n, dn.loops.length = n := ⟨_, rfl⟩
  have hro : Reads w B1 1 R outer.length (numV .i64 outer) := by
    rw [htk]
    refine ⟨by unfold numV; rw [List.length_map, Nat.mul_one]; exact htk, fun h0 => ?_⟩
    obtain ⟨ad', e', hlt', hcell'⟩ := hrow.2 (by omega)
    refine ⟨ad', e', hlt', fun j u hu => hcell' j u ?_⟩
    rw [← hout] at hu
    unfold numV at hu ⊢
    rw [List.map_take, List.getElem?_take] at hu
    split at hu
    · exact hu
    · cases hu
  have HRO := Lib.hid hro
  rw [hnl2] at hd hdm hdc htk
  have HKEY := Lib.hid (show ∀ W', Below w.heap.size w W' → Calls Tryz.prog 35 #[.string e.nm, .slice R nl cr] W' fun en w' => en = .returned (.string key) ∧ Below W'.heap.size W' w' from fun W' hb => by
    have h := rowKey_any e.nm outer R cr B1 W' hnz (by omega) hr2 (hro.below (hb.mono hB1)) (Nat.le_trans hB1 hb.size) (hw.tab.below hb)
    rw [htk, hkey] at h
    exact h)
  have HL4 := Lib.hid (show ∀ W', Below w.heap.size w W' → (Instr.lookup 59 (.map (some m4)) (.string key) false).run Tryz.prog W' = .ok (.slice Q1 nums.length q1) W' from fun W' hb => by
    have h := (HW.out.si.m4m.below hb HW.out.si.m4m.lt).get Tryz.underlying59 (zeroRow W') hkz
    rw [hgr] at h
    exact h)
  have hl1 : ∀ W' : World, Below w.heap.size w W' → (Instr.lookup 55 (.map (some m2)) (.string e.nm) false).run Tryz.prog W' = .ok (.agg #[.string dn.nm, .slice N1 nl n1]) W' := fun W' hb => by
    have h := (HW.out.si.ty.n.below hb HW.out.si.ty.n.lt).get Tryz.underlying55 (zeroNest W') hn0
    rw [hg, hnl2] at h
    exact h
  have HADB := Lib.hid hb
  have HDX := Lib.hid (And.intro hdx hd2)
  have HQ := Lib.hid (And.intro hqx hq9)
  have HI := Lib.hid hI
  have HOP := Lib.hid ho
  have HAR := Lib.hid har
  have HR2 := Lib.hid hr2
  obtain ⟨W, hW, hbw, BV, BR, hsz⟩ := box2 w 27 24 #[.int .i64 e.k, .int .i64 e.op, .string e.nm, .int .i64 e.v.k, .int .i64 e.v.n, .string e.v.s, .slice X1 e.v.l.length x1, .slice (some ad) 1 x2] #[.int .i64 0, .int .i64 0, .string ⟨#[]⟩, .slice none 0 0]
  have B1' := HW.out.si.blk.below hbw hgs
  have g1 : W.cell? ⟨gs, 0 + 1, none⟩ = some (.map (some m2)) := B1'.cell 1
  have g1' : W.cell? ⟨gs, 1, none⟩ = some (.map (some m2)) := B1'.cell 1
  have e2 : W.cell? ⟨w.heap.size, 2, none⟩ = some (.string e.nm) := BV.cell 2
  obtain ⟨n, hn1⟩ : ∃ n, row.length = n := ⟨_, rfl⟩
  rw [hn1] at hd hc hrl ⊢
  have hmn : min (n : Int) (nl : Int) = nl := by omega
  have hnlI : (nl : Int) ≤ cr := by omega
  clear hro hrow hw hx0 hr0 hi0 hcell hb hea hvals hkd hf hdx hd1 hd2 hd3 hr hg hdl hf2 hgr hqx hq9 hqc hok hI ho har hnums hkey hout hr2 hkz
  rw [show exCells e X1 x1 (some ad) x2 = [.int .i64 e.k, .int .i64 e.op, .string e.nm, .int .i64 e.v.k, .int .i64 e.v.n, .string e.v.s, .slice X1 e.v.l.length x1, .slice (some ad) 1 x2] by unfold exCells; rw [hear]]
  clear hear
  change Calls _ _ #[_, .agg #[.int .i64 e.k, .int .i64 e.op, .string e.nm, .int .i64 e.v.k, .int .i64 e.v.n, .string e.v.s, .slice X1 e.v.l.length x1, .slice (some ad) 1 x2], _] _ _
  go_enter Tryz.func49, Tryz.ntmps49
  go_upto_region 1 with (fail)
  rw [← hW]
  clear hW
  have HL1 := Lib.hid hl1
  have hbr := Below.refl W.heap.size W
  have HKQ := Lib.hid (fun w' (hq : Below W.heap.size W w') => And.intro (Below.cell_of hq g1') (And.intro (Below.cell_of hq e2) (And.intro (HL1.out w' (hbw.trans (hq.mono hbw.size))) hq)))
  clear hl1 hsz
  go_cut [7] from 19 (fun p wd => p = .pointer (some ⟨W.heap.size, 0, none⟩) ∧ Hid (Blk wd W.heap.size 97 #[.string dn.nm, .slice N1 nl n1]) ∧ Hid (Below W.heap.size W wd))
  case first =>
    go_region_held3 (fun w' => w'.cell? ⟨gs, 1, none⟩ = some (.map (some m2)) ∧ w'.cell? ⟨w.heap.size, 2, none⟩ = some (.string e.nm) ∧ (Instr.lookup 55 (.map (some m2)) (.string e.nm) false).run Tryz.prog w' = .ok (.agg #[.string dn.nm, .slice N1 nl n1]) w' ∧ Below W.heap.size W w') (first | exact HKQ.out _ hbr.drew | exact HKQ.out _ (hbr.alloc (Nat.le_refl _) _) | exact HKQ.out _ (hbr.alloc (Nat.le_refl _) _).drew | exact HKQ.out _ (hbr.drew.alloc (Nat.le_refl _) _) | exact HKQ.out _ hbr) (fail)
    all_goals
      try go_wp2_with fail
      go_meet
      exact ⟨rfl, Lib.hid (Blk.new W _ _).drew, Lib.hid ((Below.refl _ W).alloc (Nat.le_refl _) _).drew⟩
  case rest =>
  obtain ⟨rfl, HB2, HBW2⟩ := hcut
  obtain ⟨W2, hw6⟩ : ∃ w6, w6 = wc := ⟨_, rfl⟩
  rw [← hw6] at HB2 HBW2 ⊢
  clear hw6 hbr HKQ
  have hbw2 := hbw.trans (HBW2.out.mono hbw.size)
  have n1c : W2.cell? ⟨W.heap.size, 1, none⟩ = some (.slice N1 nl n1) := HB2.out.cell 1
  have n0c : W2.cell? ⟨W.heap.size, 0, none⟩ = some (.string dn.nm) := HB2.out.cell 0
  go_upto_region 3 with (fail)
  obtain ⟨i0, hi0, hz0, hz1, hz2⟩ := info_parts infoStr
  have hs2 : B0 ≤ W2.heap.size := Nat.le_trans hB0 hbw2.size
  have hq0 : Below W2.heap.size W2 W2 := Below.refl _ _
  have hq0a : ∀ o, Below W2.heap.size W2 (W2.alloc o).drew := fun o => (hq0.alloc (Nat.le_refl _) _).drew
  have HS := Lib.hid (show ∀ w', Below W2.heap.size W2 w' → w'.cell? ⟨W.heap.size, 0, none⟩ = some (.string dn.nm) ∧ w'.cell? ⟨W.heap.size, 1, none⟩ = some (.slice N1 nl n1) ∧ Below W2.heap.size W2 w' from fun w' hb => ⟨Below.cell_of hb n0c, Below.cell_of hb n1c, hb⟩)
  have K1 := Lib.hid (show ∀ w', Below W2.heap.size W2 w' → Calls Tryz.prog 42 #[.slice N1 nl n1] w' fun en w'' => ∃ v, en = .returned v ∧ w''.ownsRow W2.heap.size 9 1 v nl (strV dn.loops) ∧ Below W2.heap.size W2 w'' ∧ Below w'.heap.size w' w'' from fun w' hb => by
    have h := cloneS dn.loops N1 n1 B0 w' (HDX.out.1.below ((hbw2.mono hB0).trans (hb.mono hs2))) (by omega)
    rw [hnl2] at h
    exact h.mono fun _ _ ⟨v, he, ho, hk⟩ => ⟨v, he, own_base ho hb.size, hb.trans (hk.mono hb.size), hk⟩)
  go_cut [9] from 19 (fun p wd => ∃ (g : Nat) (cap : Nat), p = .slice (some ⟨g, 0, none⟩) (nl + 1) cap ∧ Hid (wd.ownsRow W2.heap.size 9 1 (.slice (some ⟨g, 0, none⟩) (nl + 1) cap) (nl + 1) (strV dn.loops ++ [.string dn.nm])) ∧ Hid (Below W2.heap.size W2 wd))
  case first =>
    go_region_held3 (fun w' => w'.cell? ⟨W.heap.size, 0, none⟩ = some (.string dn.nm) ∧ w'.cell? ⟨W.heap.size, 1, none⟩ = some (.slice N1 nl n1) ∧ Below W2.heap.size W2 w')
      (first | exact HS.out _ hq0 | exact HS.out _ hq0.drew | exact HS.out _ hq1 | exact HS.out _ hq2 | exact HS.out _ (hq1.alloc (Nat.le_trans hq0.size hq1.size) _) | exact HS.out _ (hq0a _))
      (first
        | (go_at_call 42; (with_reducible refine (K1.out _ hq0.drew).mono ?_); rintro e1 w1 ⟨v, rfl, ho1, hq1, hk1'⟩)
        | (go_at_call 42; (with_reducible refine (K1.out _ (hq0a _)).mono ?_); rintro e1 w1 ⟨v, rfl, ho1, hq1, hk1'⟩; have hzz := Below.cell_of (a := ⟨W2.heap.size, 0, none⟩) (v := .string dn.nm) hk1' (by simp [go_sem]))
        | (have hoxx := ho1; clear hoxx; refine step_append_lies _ rfl _ _ 34 rfl W2.heap.size 9 i0 (.string ByteArray.empty) 1 16 Tryz.underlying34 hi0 hz0 hz1 hz2 rfl (by decide) v nl (strV dn.loops) rfl (ho1.alloc _) ⟨w1.heap.size, 0, none⟩ 1 1 [.string dn.nm] rfl rfl (by intro j u hj; cases j with | zero => (have hu := (Option.some.inj hj).symm); subst hu; simp [go_sem] | succ j => simp at hj) (by intro u hu; simp only [List.mem_singleton] at hu; subst hu; rfl) (by decide) (by unfold maxLen; omega) (by omega) (by have := hq1.size; first | omega | (simp; omega)) _ rfl ?_; intro g cap w2 ho2 hgr _ _; have hq2 := (hq1.alloc (Nat.le_trans hq0.size hq1.size) _).grown hgr (by have := hq1.size; simp; omega) (fun g hg => (ho1.lt g hg).1))
        | (have hoxx := ho1; clear hoxx; refine step_append_lies _ rfl _ _ 34 rfl W2.heap.size 9 i0 (.string ByteArray.empty) 1 16 Tryz.underlying34 hi0 hz0 hz1 hz2 rfl (by decide) v nl (strV dn.loops) rfl ho1 ⟨W2.heap.size, 0, none⟩ 1 1 [.string dn.nm] rfl rfl (by intro j u hj; cases j with | zero => (have hu : u = .string dn.nm := by simpa using hj.symm); subst hu; exact hzz | succ j => simp at hj) (by intro u hu; simp only [List.mem_singleton] at hu; subst hu; rfl) (by decide) (by unfold maxLen; omega) (by omega) (by have := hq1.size; first | omega | (simp; omega)) _ rfl ?_; intro g cap w2 ho2 hgr _ _; have hq2 := hq1.grown hgr hq1.size (fun g hg => (ho1.lt g hg).1)))
    all_goals
      try go_wp2_with fail
      go_meet
      exact ⟨_, _, rfl, Lib.hid ho2, Lib.hid hq2⟩
  case rest =>
  obtain ⟨gA, capA, rfl, HOA, HBW3⟩ := hcut
  obtain ⟨W3, hw6⟩ : ∃ w6, w6 = wc := ⟨_, rfl⟩
  rw [← hw6] at HOA HBW3 ⊢
  have hbw3 := hbw2.trans (HBW3.out.mono hbw2.size)
  have hlA : (dn.loops ++ [dn.nm]).length = nl + 1 := by simp [hnl2]
  have HEV := Lib.hid (show ∀ (w' : World) (g cap k : Nat) (hk : k < nums.length), Below W3.heap.size W3 w' → w'.ownsRow W3.heap.size 3 1 (.slice (some ⟨g, 0, none⟩) (nl + 1) cap) (nl + 1) (numV .i64 outer ++ [.int .i64 nums[k]]) → Calls Tryz.prog 20 #[.pointer (some ⟨gs, 0, none⟩), .agg #[.int .i64 a.k, .int .i64 a.op, .string a.nm, .int .i64 a.v.k, .int .i64 a.v.n, .string a.v.s, .slice A3 a.v.l.length c3, .slice A4 a.ar.length c4], .slice (some ⟨gA, 0, none⟩) (nl + 1) capA, .slice (some ⟨g, 0, none⟩) (nl + 1) cap] w' fun en w'' => (∃ x, en = .returned x ∧ VRet w'' B0 (a.val S (dn.loops ++ [dn.nm]) (outer ++ [nums[k]])) x) ∧ Below w'.heap.size w' w'' from by
    intro w' g cap k hk hb ho
    have hww := hbw3.trans (hb.mono hbw3.size)
    have hA := own_below HOA.out hb
    have hlo : (outer ++ [nums[k]]).length = nl + 1 := by simp [htk]
    have h := HI.out (dn.loops ++ [dn.nm]) (outer ++ [nums[k]]) (some ⟨gA, 0, none⟩) (some ⟨g, 0, none⟩) capA cap w'.heap.size _ w' (HW.out.keep hww) (HCI.out.keep (hww.mono hB0)) (by rw [StrsAt, strV_snoc, hlA]; exact Reads.of_own hA) (by rw [hlo, show numV .i64 (outer ++ [nums[k]]) = numV .i64 outer ++ [.int .i64 nums[k]] by simp [numV]]; exact Reads.of_own ho) (Nat.le_refl _) (by rw [hlA, hlo]) (by rw [hlA]; exact own_cap hA) (by rw [hlo]; exact own_cap ho) (by rw [hlo]; omega) (HCO.out _ (List.getElem_mem hk)) HKD.out
    rw [hlA, hlo] at h
    exact h)
  clear hw6 HS K1 g1 g1' e2 n1c n0c
  go_upto_region 5 with (fail)
  have B3 := HW.out.si.blk.below hbw3 hgs
  have hbWW := HBW2.out.trans (HBW3.out.mono HBW2.out.size)
  have BV3 := BV.below hbWW BV.lt
  have BR3 := BR.below hbWW BR.lt
  have g3 : W3.cell? ⟨gs, 3, none⟩ = some (.map (some m4)) := B3.cell 3
  have g3' : W3.cell? ⟨gs, 2 + 1, none⟩ = some (.map (some m4)) := B3.cell 3
  have e2 : W3.cell? ⟨w.heap.size, 2, none⟩ = some (.string e.nm) := BV3.cell 2
  have HS5 := Lib.hid (show ∀ w', Below W3.heap.size W3 w' → w'.cell? ⟨gs, 3, none⟩ = some (.map (some m4)) ∧ w'.cell? ⟨w.heap.size, 2, none⟩ = some (.string e.nm) ∧ (Instr.lookup 59 (.map (some m4)) (.string key) false).run Tryz.prog w' = .ok (.slice Q1 nums.length q1) w' ∧ Below W3.heap.size W3 w' from fun w' hb => ⟨Below.cell_of hb g3, Below.cell_of hb e2, HL4.out w' (hbw3.trans (hb.mono hbw3.size)), hb⟩)
  have K5 := Lib.hid (show ∀ w', Below W3.heap.size W3 w' → Calls Tryz.prog 35 #[.string e.nm, .slice R nl cr] w' fun en w'' => en = .returned (.string key) ∧ Below W3.heap.size W3 w'' from fun w' hb => (HKEY.out w' (hbw3.trans (hb.mono hbw3.size))).mono fun _ _ ⟨he, hk⟩ => ⟨he, hb.trans (hk.mono hb.size)⟩)
  have hq0 : Below W3.heap.size W3 W3 := Below.refl _ _
  clear B3 BV BR
  go_cut [50, 51, 52] from 19 (fun v n0 z wd => v = .slice Q1 nums.length q1 ∧ n0 = .int .i64 (nums.length : Nat) ∧ z = .int .i64 0 ∧ Hid (Below W3.heap.size W3 wd))
  case first =>
    go_region_held3 (fun w' => w'.cell? ⟨gs, 3, none⟩ = some (.map (some m4)) ∧ w'.cell? ⟨w.heap.size, 2, none⟩ = some (.string e.nm) ∧ (Instr.lookup 59 (.map (some m4)) (.string key) false).run Tryz.prog w' = .ok (.slice Q1 nums.length q1) w' ∧ Below W3.heap.size W3 w')
      (first | exact HS5.out _ hq0 | exact HS5.out _ hq0.drew | exact HS5.out _ hq1 | exact HS5.out _ hq1.drew)
      (first | (go_at_call 35; (with_reducible refine (K5.out _ hq0.drew).mono ?_); rintro e1 w1 ⟨rfl, hq1⟩))
    all_goals
      try go_wp2_with fail
      go_meet
      exact ⟨rfl, rfl, rfl, Lib.hid hq1⟩
  case rest =>
  obtain ⟨rfl, rfl, rfl, HBW4⟩ := hcut
  obtain ⟨W4, hw6⟩ : ∃ w6, w6 = wc := ⟨_, rfl⟩
  rw [← hw6] at HBW4 ⊢
  have hbw4 := hbw3.trans (HBW4.out.mono hbw3.size)
  have hB04 : B0 ≤ W4.heap.size := Nat.le_trans hB0 hbw4.size
  have BV4 := BV3.below HBW4.out BV3.lt
  have BR4 := BR3.below HBW4.out BR3.lt
  have HBV := Lib.hid BV4
  have HBR := Lib.hid BR4
  clear hw6 HS5 K5 g3 g3' e2 BV3 BR3 BV4 BR4
  have n9 := HQ.out.2
  go_wp2_with fail
  go_loopw [52, 10, 12] (fun i v _ wr => ∃ (k : Nat) (Av : Option Addr) (cv : Nat), k ≤ nums.length ∧ i = .int .i64 k ∧ v = .slice Av k cv ∧ Hid (OV wr B0 W4.heap.size (.slice Av k cv) (vals.take k)) ∧ Below W4.heap.size W4 wr) (fun i _ _ _ => nums.length - (intOf i).toNat)
  case atStart => exact ⟨0, none, 0, Nat.zero_le _, rfl, rfl, Lib.hid OV.nil, Below.refl _ _⟩
  case round =>
    obtain ⟨k, Av, cv, hk, rfl, rfl, HOV, hbr⟩ := hrel
    by_cases hlt : k < nums.length
    · obtain ⟨bq, oq, hQ, hbq, hcq⟩ := HQ.out.1.base (by omega) (by decide)
      subst hQ
      obtain ⟨nn, hnn⟩ : ∃ nn, nums[k] = nn := ⟨_, rfl⟩
      have hbwr := hbw4.trans (hbr.mono hbw4.size)
      have cq : wr.cell? ⟨bq, oq + k, none⟩ = some (.int .i64 nn) := Below.cell_of hbwr (hcq k _ (by rw [← hnn]; simp [numV, hlt]))
      have hlI : (k : Int) < (nums.length : Nat) := by omega
      have HLT := Lib.hid hlt
      have HNN := Lib.hid hnn
      have hB0r : B0 ≤ wr.heap.size := Nat.le_trans hB04 hbr.size
      have hb3r := HBW4.out.trans (hbr.mono HBW4.out.size)
      have HEV2 := Lib.hid (HEV.out · · · k hlt)
      have HVK := Lib.hid (show vals.take (k + 1) = vals.take k ++ [a.val S (dn.loops ++ [dn.nm]) (outer ++ [nn])] by
        rw [← List.take_append_getElem (by omega), HVV.out k hlt (by omega), hnn])
      have hvk : (vals.take k).length = k := by rw [List.length_take]; omega
      rw [hnn] at HEV2
      clear hcq hnn
      obtain ⟨f0, f1, f2, f3, f4, f5, f6, f7⟩ := HFC.out
      have f0 := Below.cell_of hbwr f0
      have f1 := Below.cell_of hbwr f1
      have f2 := Below.cell_of hbwr f2
      have f3 := Below.cell_of hbwr f3
      have f4 := Below.cell_of hbwr f4
      have f5 := Below.cell_of hbwr f5
      have f6 := Below.cell_of hbwr f6
      have f7 := Below.cell_of hbwr f7
      have e4 : wr.cell? ⟨w.heap.size, 7, none⟩ = some (.slice (some ad) 1 x2) := Below.cell_of hbr (HBV.out.cell 7)
      have K8 := Lib.hid (show ∀ w', Below wr.heap.size wr w' → Calls Tryz.prog 45 #[.slice R nl cr] w' fun en w'' => ∃ v, en = .returned v ∧ w''.ownsRow wr.heap.size 3 1 v nl (numV .i64 outer) ∧ Below wr.heap.size wr w'' ∧ Below w'.heap.size w' w'' from fun w' hb => by
        have h := cloneI outer R cr B1 w' (HRO.out.below ((hbwr.trans (hb.mono hbwr.size)).mono hB1)) (by omega)
        rw [htk] at h
        exact h.mono fun _ _ ⟨v, he, ho, hk⟩ => ⟨v, he, own_base ho hb.size, hb.trans (hk.mono hb.size), hk⟩)
      obtain ⟨j0, hj0, hy0, hy1, hy2⟩ := info_parts infoInt
      obtain ⟨v0, hu0, hz0v, hz1v, hz2v⟩ := info_parts infoVal
      have hq0 : Below wr.heap.size wr wr := Below.refl _ _
      have hq0a : ∀ o, Below wr.heap.size wr (wr.alloc o).drew := fun o => (hq0.alloc (Nat.le_refl _) _).drew
      go_upto_region 8 with (fail)
      have hz4 : w.heap.size < W4.heap.size := HBV.out.lt
      have hbl : ad.block < W4.heap.size := by have := HADB.out; omega
      have hr4 := hbr.size
      have HS8 := Lib.hid (show ∀ w', Below W4.heap.size wr w' → w'.cell? ⟨w.heap.size, 7, none⟩ = some (.slice (some ad) 1 x2) ∧ w'.cell? ad = some (.int .i64 a.k) ∧ w'.cell? ⟨ad.block, ad.off + 1, none⟩ = some (.int .i64 a.op) ∧ w'.cell? ⟨ad.block, ad.off + 2, none⟩ = some (.string a.nm) ∧ w'.cell? ⟨ad.block, ad.off + 3, none⟩ = some (.int .i64 a.v.k) ∧ w'.cell? ⟨ad.block, ad.off + 4, none⟩ = some (.int .i64 a.v.n) ∧ w'.cell? ⟨ad.block, ad.off + 5, none⟩ = some (.string a.v.s) ∧ w'.cell? ⟨ad.block, ad.off + 6, none⟩ = some (.slice A3 a.v.l.length c3) ∧ w'.cell? ⟨ad.block, ad.off + 7, none⟩ = some (.slice A4 a.ar.length c4) ∧ Below W4.heap.size wr w' from fun w' hb => ⟨(hb.cell hz4).trans e4, (hb.cell hbl).trans f0, (hb.cell (show (⟨ad.block, ad.off + 1, none⟩ : Addr).block < W4.heap.size from hbl)).trans f1, (hb.cell (show (⟨ad.block, ad.off + 2, none⟩ : Addr).block < W4.heap.size from hbl)).trans f2, (hb.cell (show (⟨ad.block, ad.off + 3, none⟩ : Addr).block < W4.heap.size from hbl)).trans f3, (hb.cell (show (⟨ad.block, ad.off + 4, none⟩ : Addr).block < W4.heap.size from hbl)).trans f4, (hb.cell (show (⟨ad.block, ad.off + 5, none⟩ : Addr).block < W4.heap.size from hbl)).trans f5, (hb.cell (show (⟨ad.block, ad.off + 6, none⟩ : Addr).block < W4.heap.size from hbl)).trans f6, (hb.cell (show (⟨ad.block, ad.off + 7, none⟩ : Addr).block < W4.heap.size from hbl)).trans f7, hb⟩)
      clear e4 f0 f1 f2 f3 f4 f5 f6 f7 hz4 hbl
      go_region_held3 (fun w' => w'.cell? ⟨w.heap.size, 7, none⟩ = some (.slice (some ad) 1 x2) ∧ w'.cell? ad = some (.int .i64 a.k) ∧ w'.cell? ⟨ad.block, ad.off + 1, none⟩ = some (.int .i64 a.op) ∧ w'.cell? ⟨ad.block, ad.off + 2, none⟩ = some (.string a.nm) ∧ w'.cell? ⟨ad.block, ad.off + 3, none⟩ = some (.int .i64 a.v.k) ∧ w'.cell? ⟨ad.block, ad.off + 4, none⟩ = some (.int .i64 a.v.n) ∧ w'.cell? ⟨ad.block, ad.off + 5, none⟩ = some (.string a.v.s) ∧ w'.cell? ⟨ad.block, ad.off + 6, none⟩ = some (.slice A3 a.v.l.length c3) ∧ w'.cell? ⟨ad.block, ad.off + 7, none⟩ = some (.slice A4 a.ar.length c4) ∧ Below W4.heap.size wr w')
        (first | exact HS8.out _ (hq5) | exact HS8.out _ ((hq3.alloc (Nat.le_trans hq0.size hq3.size) _).mono hr4) | exact HS8.out _ (hq3.mono hr4) | exact HS8.out _ (hq2.mono hr4) | exact HS8.out _ ((hq1.alloc (Nat.le_trans hq0.size hq1.size) _).mono hr4) | exact HS8.out _ (hq1.mono hr4) | exact HS8.out _ ((hq0a _).mono hr4) | exact HS8.out _ (hq0.mono hr4) | exact HS8.out _ (hq0.drew.mono hr4))
        (first
          | (go_at_call 45; (with_reducible refine (K8.out _ hq0.drew).mono ?_); rintro e1 w1 ⟨v, rfl, ho1, hq1, hk1'⟩)
          | (go_at_call 45; (with_reducible refine (K8.out _ (hq0a _)).mono ?_); rintro e1 w1 ⟨v, rfl, ho1, hq1, hk1'⟩; have hzz := Below.cell_of (a := ⟨wr.heap.size, 0, none⟩) (v := .int .i64 nn) hk1' (by simp [go_sem]))
          | (go_at_call 20; (with_reducible refine (HEV2.out _ _ _ (hb3r.trans (hq2.mono hb3r.size)) (own_base ho2 hb3r.size)).mono ?_); rintro e3 w3 ⟨⟨x, rfl, cs3, rfl, ⟨A5, c5, rfl, hr3⟩, hs3, hl3⟩, hk3⟩; have hq3 := hq2.trans (hk3.mono hq2.size); obtain ⟨xs, hox, hsn⟩ := (HOV.out.below hq3 hB0r).snoc; rw [hvk] at hox hsn)
          | (have hoxx := hox; clear hoxx; refine step_append_lies _ rfl _ _ 113 rfl W4.heap.size 24 v0 (.agg #[.int .i64 0, .int .i64 0, .string ByteArray.empty, .slice none 0 0]) 4 56 Tryz.underlying113 hu0 hz0v hz1v hz2v rfl (by decide) (.slice Av k cv) k xs rfl (hox.alloc _) ⟨w3.heap.size, 0, none⟩ 1 1 [.int .i64 (a.val S (dn.loops ++ [dn.nm]) (outer ++ [nn])).k, .int .i64 (a.val S (dn.loops ++ [dn.nm]) (outer ++ [nn])).n, .string (a.val S (dn.loops ++ [dn.nm]) (outer ++ [nn])).s, .slice A5 (a.val S (dn.loops ++ [dn.nm]) (outer ++ [nn])).l.length c5] rfl rfl (World.news_of_block (Blk.new w3 24 _)) (by intro u hu; simp only [List.mem_cons, List.not_mem_nil, or_false] at hu; rcases hu with rfl | rfl | rfl | rfl <;> rfl) (by decide) (by unfold maxLen; omega) (by omega) (by have := hq3.size; have := hbr.size; simp; omega) _ rfl ?_; intro g2 cap2 w4 ho4 hgr4 _ _; have hq5 := ((hq3.alloc (Nat.le_trans hq0.size hq3.size) _).mono hbr.size).grown hgr4 (by have := hq3.size; have := hbr.size; simp; omega) (fun g hg => (hox.lt g hg).1))
          | (have hoxx := hzz; clear hoxx; refine step_append_lies _ rfl _ _ 22 rfl wr.heap.size 3 j0 (.int .i64 0) 1 8 Tryz.underlying22 hj0 hy0 hy1 hy2 rfl (by decide) v nl (numV .i64 outer) rfl ho1 ⟨wr.heap.size, 0, none⟩ 1 1 [.int .i64 nn] rfl rfl (by intro j u hj; cases j with | zero => (have hu : u = .int .i64 nn := by simpa using hj.symm); subst hu; exact hzz | succ j => simp at hj) (by intro u hu; simp only [List.mem_singleton] at hu; subst hu; rfl) (by decide) (by unfold maxLen; omega) (by omega) (by have := hq1.size; first | omega | (simp; omega)) _ rfl ?_; intro g cap w2 ho2 hgr _ _; have hq2 := hq1.grown hgr hq1.size (fun g hg => (ho1.lt g hg).1))
          | (have hoxx := ho1; clear hoxx; refine step_append_lies _ rfl _ _ 22 rfl wr.heap.size 3 j0 (.int .i64 0) 1 8 Tryz.underlying22 hj0 hy0 hy1 hy2 rfl (by decide) v nl (numV .i64 outer) rfl (ho1.alloc _) ⟨w1.heap.size, 0, none⟩ 1 1 [.int .i64 nn] rfl rfl (World.news_of_block (Blk.new w1 3 _)) (by intro u hu; simp only [List.mem_singleton] at hu; subst hu; rfl) (by decide) (by unfold maxLen; omega) (by omega) (by have := hq1.size; first | omega | (simp; omega)) _ rfl ?_; intro g cap w2 ho2 hgr _ _; have hq2 := (hq1.alloc (Nat.le_trans hq0.size hq1.size) _).grown hgr (by have := hq1.size; simp; omega) (fun g hg => (ho1.lt g hg).1)))
      all_goals
        try go_wp2_with fail
        have HO9 := Lib.hid (show OV w4 B0 W4.heap.size (.slice (some ⟨g2, 0, none⟩) (k + 1) cap2) (vals.take (k + 1)) from by
          have hb04 : Below B0 w3 w4 := ((Below.refl B0 w3).alloc (Nat.le_trans hB0r hq3.size) _).grown hgr4 (by have := hq3.size; simp; omega) (fun g hg => Nat.le_trans hB04 (hox.lt g hg).1)
          rw [HVK.out]
          exact hsn w4 _ (a.val S (dn.loops ++ [dn.nm]) (outer ++ [nn])) A5 c5 ho4 hb04 (hr3.below hb04) hs3 hl3)
        go_roundw
        case rel => exact ⟨k + 1, some ⟨g2, 0, none⟩, cap2, HLT.out, by go_num, rfl, HO9, hbr.trans hq5⟩
        case measure =>
          have := HLT.out
          simp [intOf]
          omega
    · have hE : k = nums.length := by omega
      have HOV := Lib.hid (show OV wr B0 W4.heap.size (.slice Av k cv) vals from by have h := HOV.out; rwa [List.take_of_length_le (by omega)] at h)
      clear hlt hk
      obtain ⟨W5, hw6⟩ : ∃ w6, w6 = wr := ⟨_, rfl⟩
      rw [← hw6] at HOV hbr ⊢
      obtain ⟨A5, hA5⟩ : ∃ a, Av = a := ⟨_, rfl⟩
      obtain ⟨c5, hc5⟩ : ∃ a, cv = a := ⟨_, rfl⟩
      rw [hA5, hc5, show k = vals.length by omega] at HOV
      rw [hA5, hc5, show k = vals.length by omega]
      clear hA5 hc5
      have hbw5 := hbw4.trans (hbr.mono hbw4.size)
      have hB05 : B0 ≤ W5.heap.size := Nat.le_trans hB04 hbr.size
      have HA5 := Lib.hid HOV.out.args
      obtain ⟨nv, hnv⟩ : ∃ n, vals.length = n := ⟨_, rfl⟩
      have hn9 : nv ≤ 999 := by omega
      rw [← hvl, hnv]
      rw [hnv] at HOV
      clear hvl n9
      obtain ⟨cT, hcT⟩ : ∃ n, (vals.filter isT).length = n := ⟨_, rfl⟩
      have hc9 : cT ≤ nv := by rw [← hcT, ← hnv]; exact List.length_filter_le _ _
      have HCT := Lib.hid hcT
      clear hw6 hcT hE
      go_wp2_with fail
      go_loopw [74, 13, 15] (fun i t _ wz => ∃ k : Nat, k ≤ nv ∧ i = .int .i64 k ∧ t = .int .i64 (((vals.take k).filter isT).length : Nat) ∧ Below W5.heap.size W5 wz) (fun i _ _ _ => nv - (intOf i).toNat)
      case atStart => exact ⟨0, Nat.zero_le _, rfl, rfl, Below.refl _ _⟩
      case round =>
        obtain ⟨k, hk, rfl, rfl, hbz⟩ := hrel
        obtain ⟨cn, hcn⟩ : ∃ n, ((vals.take k).filter isT).length = n := ⟨_, rfl⟩
        rw [hcn]
        by_cases hlt : k < nv
        · have hltv : k < vals.length := by omega
          obtain ⟨b, o, hA5, hb, hc⟩ := HA5.out.base (by omega)
          subst hA5
          obtain ⟨Ai, ci, hv⟩ := hc k hltv
          have hv := hv.keep hbz hB05 hb
          obtain ⟨v, hvv⟩ : ∃ v, vals[k] = v := ⟨_, rfl⟩
          rw [hvv] at hv
          obtain ⟨q, hq⟩ : ∃ q, isT v = q := ⟨_, rfl⟩
          have hst : ((vals.take (k + 1)).filter isT).length = cn + if q then 1 else 0 := by
            rw [← List.take_append_getElem hltv, List.filter_append, List.length_append, hcn, hvv]
            simp only [List.filter_cons, hq]
            cases q <;> rfl
          have HST := Lib.hid hst
          have hcl : cn ≤ k := by rw [← hcn]; exact Nat.le_trans (List.length_filter_le _ _) (by rw [List.length_take]; omega)
          have HC := Lib.hid (show ∀ W', Calls Tryz.prog 51 #[.agg #[.int .i64 v.k, .int .i64 v.n, .string v.s, .slice Ai v.l.length ci]] W' fun en w'' => en = .returned (.bool q) ∧ Below W'.heap.size W' w'' from fun W' => by
            have h := isTrue_any v.k v.n v.s (.slice Ai v.l.length ci) W'
            rw [show (decide (v.k = 7) && decide (v.n = 1)) = q from hq] at h
            exact h)
          have x0 := hv.c0
          have x1 := hv.c1
          have x2 := hv.c2
          have x3 := hv.c3
          have hlI : (k : Int) < (nv : Nat) := by omega
          have HLT := Lib.hid hlt
          clear hb hc hvv hv hst hq hcn
          cases q
          all_goals
            go_wp2_with (go_at_call 51; refine (HC.out _).mono ?_; rintro e6 w6 ⟨rfl, hb6⟩)
            go_roundw
            case rel => exact ⟨k + 1, HLT.out, by go_num, by rw [HST.out]; first | rfl | go_num, (hbz.alloc hbz.size _).trans (hb6.mono (by have := hbz.size; simp; omega))⟩
            case measure =>
              have := HLT.out
              simp [intOf]
              omega
        · have hE : k = nv := by omega
          have e6 : cn = cT := by rw [← hcn, ← HCT.out, hE, List.take_of_length_le (by omega)]
          clear hcn
          subst e6
          have hE := hE.symm
          subst hE
          clear hlt hk
          obtain ⟨W6, hw6⟩ : ∃ w6, w6 = wr := ⟨_, rfl⟩
          rw [← hw6] at hbz ⊢
          clear hw6
          have hbw6 := hbw5.trans (hbz.mono hbw5.size)
          have hb46 := hbr.trans (hbz.mono hbr.size)
          have BR6 := HBR.out.below hb46 HBR.out.lt
          have HBR6 := Lib.hid BR6
          have HOV6 := Lib.hid (HOV.out.below hbz hB05)
          have ec1 : W6.cell? ⟨w.heap.size, 1, none⟩ = some (.int .i64 e.op) := Below.cell_of hb46 (HBV.out.cell 1)
          have hop : e.op = 1 ∨ e.op = 2 ∨ e.op = 3 ∨ e.op = 4 ∨ e.op = 5 ∨ e.op = 6 := by have := HOP.out; omega
          obtain ⟨OP, hOP⟩ : ∃ o, e.op = o := ⟨_, rfl⟩
          rw [hOP] at hop ec1
          have HQO := Lib.hid hOP
          clear HOP hOP BR6
          have HD := Lib.hid (deleteFunc_any pred_missing vals (.slice A5 nv c5) B0 W4.heap.size W6 HOV6.out hb46.size hB04)
          rcases hop with rfl | rfl | rfl | rfl | rfl | rfl
          · go_upto_region 25 with (go_at_call 77; (with_reducible refine HD.out.mono ?_); rintro e7 w7 ⟨⟨v', rfl, hov7⟩, hb7⟩)
            obtain ⟨l, hl9⟩ : ∃ l, (vals.filter fun x => !missV x) = l := ⟨_, rfl⟩
            rw [hl9] at hov7
            obtain ⟨A7, c7, rfl⟩ := hov7.form
            have HL9 := Lib.hid (show (∀ v ∈ l, nB v.n) ∧ l.length ≤ nv from ⟨fun v hv => (HVN.out v (by rw [← hl9] at hv; exact (List.mem_filter.1 hv).1)).1, by rw [← hl9, ← hnv]; exact List.length_filter_le _ _⟩)
            have HV := Lib.hid (show overV e.op vals = numeralV (sumN l) by rw [HQO.out]; unfold overV; rw [if_neg (by decide), if_neg (by decide), if_neg (by decide), if_pos rfl, hl9])
            have hb47 := hb46.trans hb7
            have hbw7 := hbw4.trans (hb47.mono hbw4.size)
            have hB07 : B0 ≤ w7.heap.size := Nat.le_trans hB0 hbw7.size
            have hl999 : l.length ≤ nv := HL9.out.2
            have ec1 : w7.cell? ⟨w.heap.size, 1, none⟩ = some (.int .i64 e.op) := Below.cell_of hb47 (HBV.out.cell 1)
            rw [HQO.out] at ec1
            have HBR7 := Lib.hid (HBR.out.below hb47 HBR.out.lt)
            have HOV7 := Lib.hid hov7
            clear hl9 hov7 hb7 hbz
            go_wp2_with fail
            go_loopw [109, 16, 18] (fun i t _ wz => ∃ k : Nat, k ≤ l.length ∧ i = .int .i64 k ∧ t = .int .i64 (sumN (l.take k)) ∧ Below w7.heap.size w7 wz) (fun i _ _ _ => l.length - (intOf i).toNat)
            case atStart => exact ⟨0, Nat.zero_le _, rfl, rfl, Below.refl _ _⟩
            case round =>
              obtain ⟨k, hk, rfl, rfl, hby⟩ := hrel
              obtain ⟨sm, hsm⟩ : ∃ n, sumN (l.take k) = n := ⟨_, rfl⟩
              rw [hsm]
              by_cases hlt : k < l.length
              · obtain ⟨b, o, hA7, hb, hc⟩ := HOV7.out.args.base (by omega)
                subst hA7
                obtain ⟨Ai, ci, hv⟩ := hc k hlt
                have hv := hv.keep hby hB07 hb
                have hst := sum_step l k hlt
                have hbd := sum_bd (l.take k) fun u hu => HL9.out.1 u (List.mem_of_mem_take hu)
                have hvn := HL9.out.1 _ (List.getElem_mem hlt)
                have hkl : (l.take k).length ≤ 999 := by rw [List.length_take]; omega
                obtain ⟨v, hvv⟩ : ∃ v, l[k] = v := ⟨_, rfl⟩
                rw [hvv] at hv hst hvn
                rw [hsm] at hst hbd
                obtain ⟨hvn1, hvn2⟩ := hvn
                have hs1 : -9223372036854775808 ≤ sm + v.n := by omega
                have hs2 : sm + v.n ≤ 9223372036854775807 := by omega
                have HST := Lib.hid hst
                have x0 := hv.c0
                have x1 := hv.c1
                have x2 := hv.c2
                have x3 := hv.c3
                have hlI : (k : Int) < (l.length : Nat) := by omega
                have HLT := Lib.hid hlt
                clear hb hc hvv hv hst hsm hbd hkl hvn1 hvn2
                go_wp2_with fail
                go_roundw
                case rel => exact ⟨k + 1, HLT.out, by go_num, by rw [HST.out], hby.alloc hby.size _⟩
                case measure =>
                  have := HLT.out
                  simp [intOf]
                  omega
              · have hE : k = l.length := by omega
                rw [hE, List.take_of_length_le (Nat.le_refl _)] at hsm
                subst hsm
                subst hE
                clear hlt hk
                have hbw8 := hbw7.trans (hby.mono hbw7.size)
                have HBR8 := Lib.hid (HBR7.out.below hby HBR7.out.lt)
                go_wp2_with (go_at_call 47; (with_reducible refine (numeral_any _ _).mono ?_); rintro e8 w8 ⟨rfl, hb8⟩; have hbw9 := hbw8.trans (hb8.mono hbw8.size); have B0 := HBR8.out.below hb8 HBR8.out.lt; obtain ⟨r0, s0, r1, s1, r2, s2, r3, s3⟩ := Blk.z4 B0; unfold vz)
                exact end4 Tryz.results49 rfl B0 hbw9 (Nat.le_succ _) (fun W9 hW9 => ⟨⟨_, rfl, by rw [HV.out]; exact VRet.num _⟩, hW9⟩)
          · have HV := Lib.hid (show overV e.op vals = numeralV (10000 * (cn : Int)) by rw [HQO.out]; unfold overV; rw [if_pos rfl, HCT.out])
            go_wp2_with (go_at_call 47; (with_reducible refine (numeral_any _ _).mono ?_); rintro e7 w7 ⟨rfl, hb7⟩; have hbw7 := hbw6.trans (hb7.mono hbw6.size); have B0 := HBR6.out.below hb7 HBR6.out.lt; obtain ⟨r0, s0, r1, s1, r2, s2, r3, s3⟩ := Blk.z4 B0; unfold vz)
            exact end4 Tryz.results49 rfl B0 hbw7 (Nat.le_succ _) (fun W9 hW9 => ⟨⟨_, rfl, by rw [HV.out]; exact VRet.num _⟩, hW9⟩)
          · rcases Nat.eq_zero_or_pos cn with h0 | h0
            all_goals
              have HV := Lib.hid (show overV e.op vals = truthV (decide (0 < cn)) by rw [HQO.out]; unfold overV; rw [if_neg (by decide), if_pos rfl, HCT.out])
            · subst h0
              go_wp2_with (go_at_call 76; (with_reducible refine (truth_any _ _).mono ?_); rintro e7 w7 ⟨rfl, hb7⟩; have hbw7 := hbw6.trans (hb7.mono hbw6.size); have B0 := HBR6.out.below hb7 HBR6.out.lt; obtain ⟨r0, s0, r1, s1, r2, s2, r3, s3⟩ := Blk.z4 B0; unfold vz)
              exact end4 Tryz.results49 rfl B0 hbw7 (Nat.le_succ _) (fun W9 hW9 => ⟨⟨_, rfl, by rw [HV.out]; exact VRet.truth _⟩, hW9⟩)
            · have h0I : (0 : Int) < (cn : Nat) := by omega
              rw [decide_eq_true h0] at HV
              go_wp2_with (go_at_call 76; (with_reducible refine (truth_any _ _).mono ?_); rintro e7 w7 ⟨rfl, hb7⟩; have hbw7 := hbw6.trans (hb7.mono hbw6.size); have B0 := HBR6.out.below hb7 HBR6.out.lt; obtain ⟨r0, s0, r1, s1, r2, s2, r3, s3⟩ := Blk.z4 B0; unfold vz)
              exact end4 Tryz.results49 rfl B0 hbw7 (Nat.le_succ _) (fun W9 hW9 => ⟨⟨_, rfl, by rw [HV.out]; exact VRet.truth _⟩, hW9⟩)
          · have HV := Lib.hid (show overV e.op vals = truthV (decide (cn = nv)) by rw [HQO.out]; unfold overV; rw [if_neg (by decide), if_neg (by decide), if_pos rfl, HCT.out, hnv])
            by_cases h0 : cn = nv
            · rw [decide_eq_true h0] at HV
              have h0I : ((cn : Int) == (nv : Int)) = true := by simp; omega
              go_wp2_with (go_at_call 76; (with_reducible refine (truth_any _ _).mono ?_); rintro e7 w7 ⟨rfl, hb7⟩; have hbw7 := hbw6.trans (hb7.mono hbw6.size); have B0 := HBR6.out.below hb7 HBR6.out.lt; obtain ⟨r0, s0, r1, s1, r2, s2, r3, s3⟩ := Blk.z4 B0; unfold vz)
              exact end4 Tryz.results49 rfl B0 hbw7 (Nat.le_succ _) (fun W9 hW9 => ⟨⟨_, rfl, by rw [HV.out]; exact VRet.truth _⟩, hW9⟩)
            · rw [decide_eq_false h0] at HV
              have h0I : ((cn : Int) == (nv : Int)) = false := by simp; omega
              go_wp2_with (go_at_call 76; (with_reducible refine (truth_any _ _).mono ?_); rintro e7 w7 ⟨rfl, hb7⟩; have hbw7 := hbw6.trans (hb7.mono hbw6.size); have B0 := HBR6.out.below hb7 HBR6.out.lt; obtain ⟨r0, s0, r1, s1, r2, s2, r3, s3⟩ := Blk.z4 B0; unfold vz)
              exact end4 Tryz.results49 rfl B0 hbw7 (Nat.le_succ _) (fun W9 hW9 => ⟨⟨_, rfl, by rw [HV.out]; exact VRet.truth _⟩, hW9⟩)
          · go_upto_region 25 with (go_at_call 77; (with_reducible refine HD.out.mono ?_); rintro e7 w7 ⟨⟨v', rfl, hov7⟩, hb7⟩)
            obtain ⟨l, hl9⟩ : ∃ l, (vals.filter fun x => !missV x) = l := ⟨_, rfl⟩
            rw [hl9] at hov7
            obtain ⟨A7, c7, rfl⟩ := hov7.form
            have HL9 := Lib.hid (show (∀ v ∈ l, nB v.n) ∧ l.length ≤ nv from ⟨fun v hv => (HVN.out v (by rw [← hl9] at hv; exact (List.mem_filter.1 hv).1)).1, by rw [← hl9, ← hnv]; exact List.length_filter_le _ _⟩)
            have HV := Lib.hid (show overV e.op vals = extremeV false l by rw [HQO.out]; unfold overV; rw [if_neg (by decide), if_neg (by decide), if_neg (by decide), if_neg (by decide), hl9]; rfl)
            have hb47 := hb46.trans hb7
            have hbw7 := hbw4.trans (hb47.mono hbw4.size)
            have hB07 : B0 ≤ w7.heap.size := Nat.le_trans hB0 hbw7.size
            have hl999 : l.length ≤ nv := HL9.out.2
            have ec1 : w7.cell? ⟨w.heap.size, 1, none⟩ = some (.int .i64 e.op) := Below.cell_of hb47 (HBV.out.cell 1)
            rw [HQO.out] at ec1
            have HBR7 := Lib.hid (HBR.out.below hb47 HBR.out.lt)
            have HOV7 := Lib.hid hov7
            clear hl9 hov7 hb7 hbz
            have HX := Lib.hid (extreme_any false l A7 c7 B0 w7.heap.size w7 HOV7.out.args (Nat.le_refl _) hB07)
            go_wp2_with (go_at_call 78; (with_reducible refine HX.out.mono ?_); rintro e8 w8 ⟨⟨x, rfl, cs8, rfl, ⟨A8, c8, rfl, hr8⟩, hs8, hl8⟩, hb8⟩; have hbw9 := hbw7.trans (hb8.mono hbw7.size); have B9 := HBR7.out.below hb8 HBR7.out.lt; obtain ⟨r0, s0, r1, s1, r2, s2, r3, s3⟩ := Blk.z4 B9)
            exact end4 Tryz.results49 rfl B9 hbw9 (Nat.le_succ _) (fun W9 hW9 => ⟨⟨_, rfl, by rw [HV.out]; exact ⟨_, rfl, (VAt.back ⟨⟨A8, c8, rfl, hr8⟩, hs8, hl8⟩ hbw9 hB0).keep hW9 hB0⟩⟩, hW9⟩)
          · go_upto_region 25 with (go_at_call 77; (with_reducible refine HD.out.mono ?_); rintro e7 w7 ⟨⟨v', rfl, hov7⟩, hb7⟩)
            obtain ⟨l, hl9⟩ : ∃ l, (vals.filter fun x => !missV x) = l := ⟨_, rfl⟩
            rw [hl9] at hov7
            obtain ⟨A7, c7, rfl⟩ := hov7.form
            have HL9 := Lib.hid (show (∀ v ∈ l, nB v.n) ∧ l.length ≤ nv from ⟨fun v hv => (HVN.out v (by rw [← hl9] at hv; exact (List.mem_filter.1 hv).1)).1, by rw [← hl9, ← hnv]; exact List.length_filter_le _ _⟩)
            have HV := Lib.hid (show overV e.op vals = extremeV true l by rw [HQO.out]; unfold overV; rw [if_neg (by decide), if_neg (by decide), if_neg (by decide), if_neg (by decide), hl9]; rfl)
            have hb47 := hb46.trans hb7
            have hbw7 := hbw4.trans (hb47.mono hbw4.size)
            have hB07 : B0 ≤ w7.heap.size := Nat.le_trans hB0 hbw7.size
            have hl999 : l.length ≤ nv := HL9.out.2
            have ec1 : w7.cell? ⟨w.heap.size, 1, none⟩ = some (.int .i64 e.op) := Below.cell_of hb47 (HBV.out.cell 1)
            rw [HQO.out] at ec1
            have HBR7 := Lib.hid (HBR.out.below hb47 HBR.out.lt)
            have HOV7 := Lib.hid hov7
            clear hl9 hov7 hb7 hbz
            have HX := Lib.hid (extreme_any true l A7 c7 B0 w7.heap.size w7 HOV7.out.args (Nat.le_refl _) hB07)
            go_wp2_with (go_at_call 78; (with_reducible refine HX.out.mono ?_); rintro e8 w8 ⟨⟨x, rfl, cs8, rfl, ⟨A8, c8, rfl, hr8⟩, hs8, hl8⟩, hb8⟩; have hbw9 := hbw7.trans (hb8.mono hbw7.size); have B9 := HBR7.out.below hb8 HBR7.out.lt; obtain ⟨r0, s0, r1, s1, r2, s2, r3, s3⟩ := Blk.z4 B9)
            exact end4 Tryz.results49 rfl B9 hbw9 (Nat.le_succ _) (fun W9 hW9 => ⟨⟨_, rfl, by rw [HV.out]; exact ⟨_, rfl, (VAt.back ⟨⟨A8, c8, rfl, hr8⟩, hs8, hl8⟩ hbw9 hB0).keep hW9 hB0⟩⟩, hW9⟩)
end Go.Proofs.YtpanbeoelbhhgaaGreatDoor
namespace Go.Proofs.YtpanbeoelbhhgaaGreatDoor
open Go.RowKit
attribute [local go_sem ↓] Go.wp_at_zero Go.wp_at_succ
set_option maxHeartbeats 4000000
set_option maxRecDepth 100000
theorem about_any (op : Int) (d : BoundD) (p : Value) (A1 A2 : Option Addr) (c1 c2 B0 : Nat) (w : World) (ho : 12 ≤ op ∧ op ≤ 14) (hn : d.v.k = 1 → -999 ≤ d.v.n ∧ d.v.n ≤ 999) :
    Calls Tryz.prog 50 #[p, .int .i64 op, .agg #[.string d.nm, .slice A1 d.row.length c1, .int .i64 d.v.k, .int .i64 d.v.n, .string d.v.s, .slice A2 d.v.l.length c2, .bool d.asked]] w fun e w' => (∃ x, e = .returned x ∧ VRet w' B0 (aboutV op d) x) ∧ Below w.heap.size w w' := by
  have HV : Hid (aboutV op d = if op = 13 then truthV d.asked else if op = 12 then truthV (d.asked && decide (1 < d.v.k)) else if d.asked = true ∧ d.v.k = 1 then numeralV (10000 * d.v.n) else numeralV 0) := Lib.hid rfl
  obtain ⟨W, hW, hbw, BV, BR, hsz⟩ := box2 w 88 24 #[.string d.nm, .slice A1 d.row.length c1, .int .i64 d.v.k, .int .i64 d.v.n, .string d.v.s, .slice A2 d.v.l.length c2, .bool d.asked] #[.int .i64 0, .int .i64 0, .string ⟨#[]⟩, .slice none 0 0]
  obtain ⟨k, hk⟩ : ∃ k, d.v.k = k := ⟨_, rfl⟩
  obtain ⟨n, hn1⟩ : ∃ k, d.v.n = k := ⟨_, rfl⟩
  obtain ⟨aq, has⟩ : ∃ k, d.asked = k := ⟨_, rfl⟩
  rw [hk, hn1, has] at BV HV hW ⊢
  rw [hk, hn1] at hn
  have v2 : W.cell? ⟨w.heap.size, 2, none⟩ = some (.int .i64 k) := BV.cell 2
  have v3 : W.cell? ⟨w.heap.size, 3, none⟩ = some (.int .i64 n) := BV.cell 3
  have v6 : W.cell? ⟨w.heap.size, 6, none⟩ = some (.bool aq) := BV.cell 6
  have HG : Hid (Below w.heap.size w W) := Lib.hid hbw
  rcases (show op = 12 ∨ op = 13 ∨ op = 14 by omega) with rfl | rfl | rfl
  · have HV := Lib.hid (show aboutV 12 d = truthV (aq && decide (1 < k)) from HV.out)
    cases aq
    all_goals
      go_enter Tryz.func50, Tryz.ntmps50
      go_upto_region 1 with (fail)
      rw [← hW]
      clear hW
      go_wp2_with (go_at_call 76; refine (truth_any _ _).mono ?_; rintro e w2 ⟨rfl, hb2⟩; have B0 := BR.below hb2 BR.lt; obtain ⟨r0, s0, r1, s1, r2, s2, r3, s3⟩ := Blk.z4 B0; unfold vz)
      all_goals exact end4 Tryz.results50 rfl B0 (hbw.trans (hb2.mono hbw.size)) (by omega) (fun W5 hW5 => ⟨⟨_, rfl, by rw [HV.out]; exact VRet.truth _⟩, hW5⟩)
  · have HV := Lib.hid (show aboutV 13 d = truthV aq from HV.out)
    go_enter Tryz.func50, Tryz.ntmps50
    go_upto_region 1 with (fail)
    rw [← hW]
    clear hW
    go_wp2_with (go_at_call 76; refine (truth_any _ _).mono ?_; rintro e w2 ⟨rfl, hb2⟩; have B0 := BR.below hb2 BR.lt; obtain ⟨r0, s0, r1, s1, r2, s2, r3, s3⟩ := Blk.z4 B0; unfold vz)
    exact end4 Tryz.results50 rfl B0 (hbw.trans (hb2.mono hbw.size)) (by omega) (fun W5 hW5 => ⟨⟨_, rfl, by rw [HV.out]; exact VRet.truth _⟩, hW5⟩)
  · by_cases hc : aq = true ∧ k = 1
    · have HV := Lib.hid (show aboutV 14 d = numeralV (10000 * n) from HV.out.trans (if_pos hc))
      obtain ⟨n1, n2⟩ := hn hc.2
      obtain ⟨rfl, rfl⟩ := hc
      go_enter Tryz.func50, Tryz.ntmps50
      go_upto_region 1 with (fail)
      rw [← hW]
      clear hW
      go_wp2_with (go_at_call 47; refine (numeral_any _ _).mono ?_; rintro e w2 ⟨rfl, hb2⟩; have B0 := BR.below hb2 BR.lt; obtain ⟨r0, s0, r1, s1, r2, s2, r3, s3⟩ := Blk.z4 B0; unfold vz)
      exact end4 Tryz.results50 rfl B0 (hbw.trans (hb2.mono hbw.size)) (by omega) (fun W5 hW5 => ⟨⟨_, rfl, by rw [HV.out]; exact VRet.num _⟩, hW5⟩)
    · have HV9 := Lib.hid (show aboutV 14 d = numeralV 0 from HV.out.trans (if_neg hc))
      clear hn
      cases aq
      case' true => have hk1 : (k == 1) = false := by simpa using hc
      all_goals
        clear hc
        go_enter Tryz.func50, Tryz.ntmps50
        go_upto_region 1 with (fail)
        rw [← hW]
        clear hW
        go_wp2_with (go_at_call 47; refine (numeral_any _ _).mono ?_; rintro e w2 ⟨rfl, hb2⟩; have B0 := BR.below hb2 BR.lt; obtain ⟨r0, s0, r1, s1, r2, s2, r3, s3⟩ := Blk.z4 B0; unfold vz)
        exact end4 Tryz.results50 rfl B0 (hbw.trans (hb2.mono hbw.size)) (by omega) (fun W5 hW5 => ⟨⟨_, rfl, by rw [HV9.out]; exact VRet.num _⟩, hW5⟩)
end Go.Proofs.YtpanbeoelbhhgaaGreatDoor
