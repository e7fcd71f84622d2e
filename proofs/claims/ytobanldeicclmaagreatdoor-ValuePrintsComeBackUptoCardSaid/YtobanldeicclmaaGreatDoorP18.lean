/- The walk of call: an operation, a row, no function. · PLAIN. A Set without the blanks between its words, a step at a time. · The walk of tight: a Set without the blanks between its words. -/
import Derived.Test.YtobanldeicclmaaGreatDoorP17
import Derived.Test.YtobanldeicclmaaGreatDoorP7
import Derived.Test.YtobanldeicclmaaGreatDoorP13
import Derived.Laws.BytesArg
import Derived.Lib.Bytes
namespace Go.Proofs.YtobanldeicclmaaGreatDoor
open Go.RowKit Vtx
attribute [local go_sem ↓] Go.wp_at_zero Go.wp_at_succ
set_option maxHeartbeats 4000000 in
set_option maxRecDepth 100000 in
theorem call_op (g : Nat) (s : ByteArray) (i : Nat) (w : World) (hp : PaAt w g s i) (hm : TM w g) (t u : Tok) (r : List Tok) (hL : wordsOf s.data.toList i = t :: u :: r) (hu : u.tx = [40]) (ho : overOf t.tx = 0) (hq : opOf t.tx ≠ 0) (hP : ∀ L', L'.length ≤ r.length → PSpec 31 .or s L') :
    Calls Tryz.prog 170 #[.pointer (some ⟨g, 0, none⟩), .string (tb t.tx)] w fun e w' => CRet w g s (callF s.data.toList.length t.tx r) e w' := by
  have HPA := Lib.hid hp
  have HM := Lib.hid hm
  have hlt := hp.b.lt
  have hs4 := hp.s
  have hw1 := word_tok hL
  have hw2 := word_tok hw1.2.symm
  obtain ⟨i1, hi1⟩ : ∃ i1, t.at_ + t.tx.length = i1 := ⟨_, rfl⟩
  obtain ⟨ea, et, eh⟩ := cur_of hw1.1
  have HI1 := Lib.hid (show curAt s i + (curTx s i).length = i1 by rw [ea, et, hi1])
  rw [hi1] at hw1 hw2
  have hfree := tok_free hw2.1 hu (by decide)
  have HWU := Lib.hid (show isW (wordsOf s.data.toList i1) [40] = true by rw [← hw1.2]; simp [isW, hfree, hu])
  obtain ⟨i2, hi2⟩ : ∃ i2, curAt s i1 + (curTx s i1).length = i2 := ⟨_, rfl⟩
  have HI2 := Lib.hid hi2
  have HWR := Lib.hid (show wordsOf s.data.toList i2 = r by
    obtain ⟨ea2, et2, -⟩ := cur_of hw2.1
    rw [← hi2, ea2, et2]; exact hw2.2.symm)
  obtain ⟨x, hx⟩ : ∃ x, t.tx = x := ⟨_, rfl⟩
  obtain ⟨R, hR⟩ : ∃ R, callF s.data.toList.length t.tx r = R := ⟨_, rfl⟩
  rw [hR]
  rw [hx] at hR ⊢
  obtain ⟨v, hv⟩ : ∃ v, tb x = v := ⟨_, rfl⟩
  have HV := Lib.hid hv
  have HOVA := Lib.hid (fun w' => hv ▸ overOf_any x w')
  have HOPA := Lib.hid (fun w' => hv ▸ opOf_any x w')
  have HRR := Lib.hid hR
  have HPP := Lib.hid hP
  rw [hv]
  rw [hx] at ho hq
  clear hR hi1 hi2 ea et eh hw1 hw2 hfree hL hu hp hm hP
  obtain ⟨op, hop⟩ : ∃ op, opOf x = op := ⟨_, rfl⟩
  have hopp := (op_pos x).1
  rw [hop] at hq hopp
  have bs0 : (v.toList == (⟨#[114, 111, 119]⟩ : ByteArray).toList) = false := strEq_false (fun e => by
    have e2 : x = rowW := by rw [← tb_data x, hv, e]; rfl
    subst e2
    exact hq (hop ▸ row_zero.2))
  have bs : (v.toList == [114, 111, 119]) = false := by simpa using bs0
  clear bs0
  have bo : (op == 0) = false := by simp [hq]
  have hgt : (0 : Int) < op := by omega
  have HRR := Lib.hid (show R = (Pz s.data.toList.length (.args op) [] r).bind fun es l1 => takeF s.data.toList.length [41] l1 fun l2 => .ok [mkOp op es] l2 by rw [← HRR.out]; unfold callF; rw [if_neg (fun h => h ho), hop, if_pos hq])
  have HOVE := Lib.hid ho
  have HOPE := Lib.hid hop
  clear ho hq hopp hv hx hop
  go_enter Tryz.func170, Tryz.ntmps170
  go_upto_region 1 with (fail)
  obtain ⟨W, hW⟩ : ∃ W, W = w.alloc (.cells #[.int .i64 0, .int .i64 0, .string ⟨#[]⟩, .int .i64 0, .int .i64 0, .string ⟨#[]⟩, .slice none 0 0, .slice none 0 0] 27 (0, 0)) := ⟨_, rfl⟩
  have hkW : Kp g w W := by rw [hW]; exact (kp_refl g w).alloc _
  have HPW := Lib.hid (show PaAt W g s i by rw [hW]; exact HPA.out.alloc _)
  have HMW := Lib.hid (HM.out.kp hkW)
  have BR : Blk W w.heap.size 27 #[.int .i64 0, .int .i64 0, .string ⟨#[]⟩, .int .i64 0, .int .i64 0, .string ⟨#[]⟩, .slice none 0 0, .slice none 0 0] := by rw [hW]; exact Blk.new w _ _
  have hWs : w.heap.size < W.heap.size := BR.lt
  have hszW : W.heap.size = w.heap.size + 1 := by rw [hW]; simp
  have HBR := Lib.hid BR
  rw [← hW]
  clear hW BR
  go_wp2_with fail
  refine (HOVA.out W).mono ?_
  rintro e wa ⟨rfl, hba⟩
  rw [HOVE.out]
  go_wp2_with fail
  refine (HOPA.out wa).mono ?_
  rintro e wb ⟨rfl, hbb⟩
  rw [HOPE.out]
  have hbw : Below W.heap.size W wb := hba.trans (hbb.mono hba.size)
  have HPb := Lib.hid (HPW.out.below hbw)
  have HKb := Lib.hid (hkW.trans (Kp.of hbw))
  have HBRb := Lib.hid (HBR.out.below hbw HBR.out.lt)
  have hszb := hbw.size
  clear hba hbb hbw
  have HNX := Lib.hid (next_any g s i wb HPb.out)
  rw [HI1.out] at HNX
  go_wp2_with (go_at_call 30; (with_reducible refine HNX.out.mono ?_); rintro e w2 ⟨rfl, hp2, hk2⟩; have HP2 := Lib.hid hp2; have HW2 := Lib.hid hk2)
  have HTK0 := take_any g s i1 w2 HP2.out [40] (by decide)
  rw [HI2.out, show tb [40] = ⟨#[40]⟩ from rfl] at HTK0
  refine HTK0.mono ?_
  intro e w3 htk
  rw [HWU.out, if_pos rfl] at htk
  obtain ⟨rfl, hp3, hk3⟩ := htk
  have HP3 := Lib.hid hp3
  have HK3 := Lib.hid ((HKb.out.trans hk2).trans hk3)
  have HBR3 := Lib.hid ((HBRb.out.kp hk2 (by omega)).kp hk3 (by omega))
  have hsz3 : W.heap.size ≤ w3.heap.size := by have h1 := hk2.size; have h2 := hk3.size; omega
  clear HTK0 hp2 hk2 hp3 hk3
  go_upto_region 8 with (fail)
  obtain ⟨W3, hW3⟩ : ∃ W3, W3 = w3.alloc (.cells #[.int .i64 3, .int .i64 0, .string ⟨#[]⟩, .int .i64 0, .int .i64 0, .string ⟨#[]⟩, .slice none 0 0, .slice none 0 0] 27 (0, 0)) := ⟨_, rfl⟩
  have HPW3 := Lib.hid (show PaAt W3 g s i2 by rw [hW3]; exact HP3.out.alloc _)
  have HKW3 := Lib.hid (show Kp g w W3 by rw [hW3]; exact HK3.out.alloc _)
  have HBRW3 := Lib.hid (show Blk W3 w.heap.size 27 #[.int .i64 0, .int .i64 0, .string ⟨#[]⟩, .int .i64 0, .int .i64 0, .string ⟨#[]⟩, .slice none 0 0, .slice none 0 0] by rw [hW3]; exact HBR3.out.alloc _)
  have HBE3 := Lib.hid (show Blk W3 w3.heap.size 27 #[.int .i64 3, .int .i64 0, .string ⟨#[]⟩, .int .i64 0, .int .i64 0, .string ⟨#[]⟩, .slice none 0 0, .slice none 0 0] by rw [hW3]; exact Blk.new w3 _ _)
  have hszW3 : W3.heap.size = w3.heap.size + 1 := by rw [hW3]; simp
  rw [← hW3]
  clear hW3
  go_wp2_with fail
  have HC := arguments_any g s i2 W3 HPW3.out (HM.out.kp HKW3.out) op r HWR.out HPP.out
  obtain ⟨r2, hr2⟩ : ∃ r2, Pz s.data.toList.length (.args op) [] r = r2 := ⟨_, rfl⟩
  rw [hr2] at HC HRR
  refine HC.mono ?_
  have hge : g < w3.heap.size := HP3.out.b.lt
  clear HC hr2
  cases r2 with
  | err k =>
    rintro e w4 ⟨rfl, hk4⟩
    have hend : R = .err k := HRR.out
    go_wp2_with fail
    refine ⟨rfl, ?_⟩
    rw [hend]
    exact ⟨rfl, HKW3.out.trans hk4⟩
  | ok es l2 =>
    rintro e w4 ⟨i5, css, A, c, rfl, rfl, hes, hown, hel, hp4, hk4⟩
    have HRT := Lib.hid (show R = takeF s.data.toList.length [41] (wordsOf s.data.toList i5) fun l => .ok [mkOp op es] l from HRR.out)
    have HM4 := Lib.hid ((mkOp_inP (B := W3.heap.size) op hes (fun k hk => hk) hown (by unfold maxLen; omega)).imp (q := fun b => w3.heap.size < b) (fun k hk _ => by omega))
    have HB4 := Lib.hid (HBE3.out.kp hk4 (by omega))
    have HBR4 := Lib.hid (HBRW3.out.kp hk4 (by omega))
    have HP4 := Lib.hid hp4
    have HK4 := Lib.hid (HKW3.out.trans hk4)
    have hsz4 : W3.heap.size ≤ w4.heap.size := hk4.size
    clear hes hown hp4 hk4
    go_wp2_with fail
    refine (operation_any op A es.length c w4).mono ?_
    rintro e w5 ⟨rfl, hb5⟩
    have hsz5 : w4.heap.size ≤ w5.heap.size := hb5.size
    have B5 := HB4.out.below hb5 HB4.out.lt
    have HB5 := Lib.hid B5
    have HBR5 := Lib.hid (HBR4.out.below hb5 HBR4.out.lt)
    have HP5 := Lib.hid (HP4.out.below hb5)
    have HK5 := Lib.hid (HK4.out.trans (Kp.of hb5))
    have HM5 := Lib.hid ((HM4.out.keep (Stay.of hb5)).up hb5.size)
    clear hb5
    have fc0 : w5.cell? ⟨w3.heap.size, 0, none⟩ = some (.int .i64 3) := B5.cell 0
    have fz0 : w5.frozen? ⟨w3.heap.size, 0, none⟩ = false := B5.frozen 0
    have fc1 : w5.cell? ⟨w3.heap.size, 1, none⟩ = some (.int .i64 0) := B5.cell 1
    have fz1 : w5.frozen? ⟨w3.heap.size, 1, none⟩ = false := B5.frozen 1
    have fc2 : w5.cell? ⟨w3.heap.size, 2, none⟩ = some (.string ⟨#[]⟩) := B5.cell 2
    have fz2 : w5.frozen? ⟨w3.heap.size, 2, none⟩ = false := B5.frozen 2
    have fc3 : w5.cell? ⟨w3.heap.size, 3, none⟩ = some (.int .i64 0) := B5.cell 3
    have fz3 : w5.frozen? ⟨w3.heap.size, 3, none⟩ = false := B5.frozen 3
    have fc4 : w5.cell? ⟨w3.heap.size, 4, none⟩ = some (.int .i64 0) := B5.cell 4
    have fz4 : w5.frozen? ⟨w3.heap.size, 4, none⟩ = false := B5.frozen 4
    have fc5 : w5.cell? ⟨w3.heap.size, 5, none⟩ = some (.string ⟨#[]⟩) := B5.cell 5
    have fz5 : w5.frozen? ⟨w3.heap.size, 5, none⟩ = false := B5.frozen 5
    have fc6 : w5.cell? ⟨w3.heap.size, 6, none⟩ = some (.slice none 0 0) := B5.cell 6
    have fz6 : w5.frozen? ⟨w3.heap.size, 6, none⟩ = false := B5.frozen 6
    have fc7 : w5.cell? ⟨w3.heap.size, 7, none⟩ = some (.slice none 0 0) := B5.cell 7
    have fz7 : w5.frozen? ⟨w3.heap.size, 7, none⟩ = false := B5.frozen 7
    go_wp2_with fail
    obtain ⟨WT, hWT⟩ : ∃ WT, WT = set8 w5 w3.heap.size (.int .i64 4) (.int .i64 op) (.string ⟨#[]⟩) (.int .i64 0) (.int .i64 0) (.string ⟨#[]⟩) (.slice none 0 0) (.slice A es.length c) := ⟨_, rfl⟩
    have HBET := Lib.hid (show Blk WT w3.heap.size 27 #[.int .i64 4, .int .i64 op, .string ⟨#[]⟩, .int .i64 0, .int .i64 0, .string ⟨#[]⟩, .slice none 0 0, .slice A es.length c] by rw [hWT]; exact set8_blk HB5.out _ _ _ _ _ _ _ _)
    have HPT := Lib.hid (show PaAt WT g s i5 by rw [hWT]; exact HP5.out.kp (set8_far _ _ _ _ _ _ _ _ _ _ g (by omega)))
    have HKT := Lib.hid (show Kp g w WT by rw [hWT]; exact set8_kp HK5.out (by omega) _ _ _ _ _ _ _ _)
    have HBRT := Lib.hid (show Blk WT w.heap.size 27 #[.int .i64 0, .int .i64 0, .string ⟨#[]⟩, .int .i64 0, .int .i64 0, .string ⟨#[]⟩, .slice none 0 0, .slice none 0 0] by
      rw [hWT]
      unfold Blk
      rw [set8_far _ _ _ _ _ _ _ _ _ _ _ (by omega)]
      exact HBR5.out)
    have HXT := Lib.hid (show ExIn WT (fun b => w3.heap.size < b) WT.heap.size (mkOp op es) (exCells (mkOp op es) none 0 A c) by rw [hWT]; exact set8_in HM5.out (fun k hk => by omega) _ _ _ _ _ _ _ _)
    have hszT : WT.heap.size = w5.heap.size := by rw [hWT, set8_size]
    dsimp only [set8] at hWT
    rw [← hWT]
    clear hWT B5
    have HTKT := take_any g s i5 WT HPT.out [41] (by decide)
    obtain ⟨i6, hi6⟩ : ∃ i6, curAt s i5 + (curTx s i5).length = i6 := ⟨_, rfl⟩
    have htl := fun h => words_tail (s := s) (i := i5) (word := [41]) h
    rw [show tb [41] = ⟨#[41]⟩ from rfl, hi6] at HTKT
    rw [hi6] at htl
    refine HTKT.mono ?_
    intro e w8 htk
    obtain ⟨b5, hb5⟩ : ∃ b, isW (wordsOf s.data.toList i5) [41] = b := ⟨_, rfl⟩
    rw [hb5] at htk
    cases b5
    · rw [if_neg (by decide)] at htk
      obtain ⟨rfl, rfl⟩ := htk
      have hend : R = .err (curAt s i5) := by rw [HRT.out]; unfold takeF; rw [if_neg (by rw [hb5]; decide), place_cur]
      have HEND := Lib.hid hend
      clear hend HTKT htl hi6
      go_wp2_with fail
      refine ⟨rfl, ?_⟩
      rw [HEND.out]
      exact ⟨rfl, HKT.out⟩
    · rw [if_pos rfl] at htk
      obtain ⟨rfl, hp8, hk8⟩ := htk
      have hend : R = .ok [mkOp op es] (wordsOf s.data.toList i6) := by rw [HRT.out]; unfold takeF; rw [if_pos hb5, ← (htl hb5).1]
      have HEND := Lib.hid hend
      have HX8 := Lib.hid (HXT.out.kpq hk8 (fun k hk => by omega))
      have HP8 := Lib.hid hp8
      have HK8 := Lib.hid (HKT.out.trans hk8)
      have B8 := HBET.out.kp hk8 (by omega)
      have BR8 := HBRT.out.kp hk8 (by omega)
      clear hend HTKT htl hi6 hb5 hp8 hk8
      have ec0 : w8.cell? ⟨w3.heap.size, 0, none⟩ = some (.int .i64 4) := B8.cell 0
      have ec1 : w8.cell? ⟨w3.heap.size, 1, none⟩ = some (.int .i64 op) := B8.cell 1
      have ec2 : w8.cell? ⟨w3.heap.size, 2, none⟩ = some (.string ⟨#[]⟩) := B8.cell 2
      have ec3 : w8.cell? ⟨w3.heap.size, 3, none⟩ = some (.int .i64 0) := B8.cell 3
      have ec4 : w8.cell? ⟨w3.heap.size, 4, none⟩ = some (.int .i64 0) := B8.cell 4
      have ec5 : w8.cell? ⟨w3.heap.size, 5, none⟩ = some (.string ⟨#[]⟩) := B8.cell 5
      have ec6 : w8.cell? ⟨w3.heap.size, 6, none⟩ = some (.slice none 0 0) := B8.cell 6
      have ec7 : w8.cell? ⟨w3.heap.size, 7, none⟩ = some (.slice A es.length c) := B8.cell 7
      have rc0 : w8.cell? ⟨w.heap.size, 0, none⟩ = some (.int .i64 0) := BR8.cell 0
      have rz0 : w8.frozen? ⟨w.heap.size, 0, none⟩ = false := BR8.frozen 0
      have rc1 : w8.cell? ⟨w.heap.size, 1, none⟩ = some (.int .i64 0) := BR8.cell 1
      have rz1 : w8.frozen? ⟨w.heap.size, 1, none⟩ = false := BR8.frozen 1
      have rc2 : w8.cell? ⟨w.heap.size, 2, none⟩ = some (.string ⟨#[]⟩) := BR8.cell 2
      have rz2 : w8.frozen? ⟨w.heap.size, 2, none⟩ = false := BR8.frozen 2
      have rc3 : w8.cell? ⟨w.heap.size, 3, none⟩ = some (.int .i64 0) := BR8.cell 3
      have rz3 : w8.frozen? ⟨w.heap.size, 3, none⟩ = false := BR8.frozen 3
      have rc4 : w8.cell? ⟨w.heap.size, 4, none⟩ = some (.int .i64 0) := BR8.cell 4
      have rz4 : w8.frozen? ⟨w.heap.size, 4, none⟩ = false := BR8.frozen 4
      have rc5 : w8.cell? ⟨w.heap.size, 5, none⟩ = some (.string ⟨#[]⟩) := BR8.cell 5
      have rz5 : w8.frozen? ⟨w.heap.size, 5, none⟩ = false := BR8.frozen 5
      have rc6 : w8.cell? ⟨w.heap.size, 6, none⟩ = some (.slice none 0 0) := BR8.cell 6
      have rz6 : w8.frozen? ⟨w.heap.size, 6, none⟩ = false := BR8.frozen 6
      have rc7 : w8.cell? ⟨w.heap.size, 7, none⟩ = some (.slice none 0 0) := BR8.cell 7
      have rz7 : w8.frozen? ⟨w.heap.size, 7, none⟩ = false := BR8.frozen 7
      go_wp2_with fail
      refine bodyPost_ret (v := .tuple #[.agg #[.int .i64 4, .int .i64 op, .string ⟨#[]⟩, .int .i64 0, .int .i64 0, .string ⟨#[]⟩, .slice none 0 0, .slice A es.length c], .bool true]) (by simp [results, Tryz.results170, go_sem, rc0, rc1, rc2, rc3, rc4, rc5, rc6, rc7]) rfl ?_
      rw [HEND.out]
      exact cret8 (L := w3.heap.size) (x := mkOp op es) (A := none) (c := 0) (A' := A) (c' := c) HX8.out (by omega) hlt HP8.out HK8.out
set_option maxHeartbeats 4000000 in
set_option maxRecDepth 100000 in
theorem call_row (g : Nat) (s : ByteArray) (i : Nat) (w : World) (hp : PaAt w g s i) (hm : TM w g) (t u : Tok) (r : List Tok) (hL : wordsOf s.data.toList i = t :: u :: r) (hu : u.tx = [40]) (hx0 : t.tx = rowW) (hP : ∀ L', L'.length ≤ r.length → PSpec 31 .or s L') :
    Calls Tryz.prog 170 #[.pointer (some ⟨g, 0, none⟩), .string (tb t.tx)] w fun e w' => CRet w g s (callF s.data.toList.length t.tx r) e w' := by
  have HPA := Lib.hid hp
  have HM := Lib.hid hm
  have hlt := hp.b.lt
  have hs4 := hp.s
  have hw1 := word_tok hL
  have hw2 := word_tok hw1.2.symm
  obtain ⟨i1, hi1⟩ : ∃ i1, t.at_ + t.tx.length = i1 := ⟨_, rfl⟩
  obtain ⟨ea, et, eh⟩ := cur_of hw1.1
  have HI1 := Lib.hid (show curAt s i + (curTx s i).length = i1 by rw [ea, et, hi1])
  rw [hi1] at hw1 hw2
  have hfree := tok_free hw2.1 hu (by decide)
  have HWU := Lib.hid (show isW (wordsOf s.data.toList i1) [40] = true by rw [← hw1.2]; simp [isW, hfree, hu])
  obtain ⟨i2, hi2⟩ : ∃ i2, curAt s i1 + (curTx s i1).length = i2 := ⟨_, rfl⟩
  have HI2 := Lib.hid hi2
  have HWR := Lib.hid (show wordsOf s.data.toList i2 = r by
    obtain ⟨ea2, et2, -⟩ := cur_of hw2.1
    rw [← hi2, ea2, et2]; exact hw2.2.symm)
  obtain ⟨x, hx⟩ : ∃ x, t.tx = x := ⟨_, rfl⟩
  obtain ⟨R, hR⟩ : ∃ R, callF s.data.toList.length t.tx r = R := ⟨_, rfl⟩
  rw [hR]
  rw [hx] at hR ⊢
  obtain ⟨v, hv⟩ : ∃ v, tb x = v := ⟨_, rfl⟩
  have HV := Lib.hid hv
  have HOVA := Lib.hid (fun w' => hv ▸ overOf_any x w')
  have HOPA := Lib.hid (fun w' => hv ▸ opOf_any x w')
  have HRR := Lib.hid hR
  have HPP := Lib.hid hP
  rw [hv]
  rw [hx] at hx0
  clear hR hi1 hi2 ea et eh hw1 hw2 hfree hL hu hp hm hP
  subst hx0
  have bs0 : (v.toList == (⟨#[114, 111, 119]⟩ : ByteArray).toList) = true := strEq_true (by rw [← hv]; rfl)
  have bs : (v.toList == [114, 111, 119]) = true := by simpa using bs0
  clear bs0
  have HRR := Lib.hid (show R = (match nameAt r with
    | none => .err (placeF s.data.toList.length r)
    | some nm => takeF s.data.toList.length [41] r.tail fun l1 => .ok [nameE 3 0 nm []] l1) by rw [← HRR.out]; unfold callF; rw [if_neg (fun h => h row_zero.1), if_neg (fun h => h row_zero.2)]; cases nameAt r <;> rfl)
  have HOVE := Lib.hid row_zero.1
  have HOPE := Lib.hid row_zero.2
  clear hv
  go_enter Tryz.func170, Tryz.ntmps170
  go_upto_region 1 with (fail)
  obtain ⟨W, hW⟩ : ∃ W, W = w.alloc (.cells #[.int .i64 0, .int .i64 0, .string ⟨#[]⟩, .int .i64 0, .int .i64 0, .string ⟨#[]⟩, .slice none 0 0, .slice none 0 0] 27 (0, 0)) := ⟨_, rfl⟩
  have hkW : Kp g w W := by rw [hW]; exact (kp_refl g w).alloc _
  have HPW := Lib.hid (show PaAt W g s i by rw [hW]; exact HPA.out.alloc _)
  have HMW := Lib.hid (HM.out.kp hkW)
  have BR : Blk W w.heap.size 27 #[.int .i64 0, .int .i64 0, .string ⟨#[]⟩, .int .i64 0, .int .i64 0, .string ⟨#[]⟩, .slice none 0 0, .slice none 0 0] := by rw [hW]; exact Blk.new w _ _
  have hWs : w.heap.size < W.heap.size := BR.lt
  have hszW : W.heap.size = w.heap.size + 1 := by rw [hW]; simp
  have HBR := Lib.hid BR
  rw [← hW]
  clear hW BR
  go_wp2_with fail
  refine (HOVA.out W).mono ?_
  rintro e wa ⟨rfl, hba⟩
  rw [HOVE.out]
  go_wp2_with fail
  refine (HOPA.out wa).mono ?_
  rintro e wb ⟨rfl, hbb⟩
  rw [HOPE.out]
  have hbw : Below W.heap.size W wb := hba.trans (hbb.mono hba.size)
  have HPb := Lib.hid (HPW.out.below hbw)
  have HKb := Lib.hid (hkW.trans (Kp.of hbw))
  have HBRb := Lib.hid (HBR.out.below hbw HBR.out.lt)
  have hszb := hbw.size
  clear hba hbb hbw
  have HNX := Lib.hid (next_any g s i wb HPb.out)
  rw [HI1.out] at HNX
  go_wp2_with (go_at_call 30; (with_reducible refine HNX.out.mono ?_); rintro e w2 ⟨rfl, hp2, hk2⟩; have HP2 := Lib.hid hp2; have HW2 := Lib.hid hk2)
  have HTK0 := take_any g s i1 w2 HP2.out [40] (by decide)
  rw [HI2.out, show tb [40] = ⟨#[40]⟩ from rfl] at HTK0
  refine HTK0.mono ?_
  intro e w3 htk
  rw [HWU.out, if_pos rfl] at htk
  obtain ⟨rfl, hp3, hk3⟩ := htk
  have HP3 := Lib.hid hp3
  have HK3 := Lib.hid ((HKb.out.trans hk2).trans hk3)
  have HBR3 := Lib.hid ((HBRb.out.kp hk2 (by omega)).kp hk3 (by omega))
  have hsz3 : W.heap.size ≤ w3.heap.size := by have h1 := hk2.size; have h2 := hk3.size; omega
  clear HTK0 hp2 hk2 hp3 hk3
  go_upto_region 8 with (fail)
  obtain ⟨W3, hW3⟩ : ∃ W3, W3 = w3.alloc (.cells #[.int .i64 3, .int .i64 0, .string ⟨#[]⟩, .int .i64 0, .int .i64 0, .string ⟨#[]⟩, .slice none 0 0, .slice none 0 0] 27 (0, 0)) := ⟨_, rfl⟩
  have HPW3 := Lib.hid (show PaAt W3 g s i2 by rw [hW3]; exact HP3.out.alloc _)
  have HKW3 := Lib.hid (show Kp g w W3 by rw [hW3]; exact HK3.out.alloc _)
  have HBRW3 := Lib.hid (show Blk W3 w.heap.size 27 #[.int .i64 0, .int .i64 0, .string ⟨#[]⟩, .int .i64 0, .int .i64 0, .string ⟨#[]⟩, .slice none 0 0, .slice none 0 0] by rw [hW3]; exact HBR3.out.alloc _)
  have HBE3 := Lib.hid (show Blk W3 w3.heap.size 27 #[.int .i64 3, .int .i64 0, .string ⟨#[]⟩, .int .i64 0, .int .i64 0, .string ⟨#[]⟩, .slice none 0 0, .slice none 0 0] by rw [hW3]; exact Blk.new w3 _ _)
  have hszW3 : W3.heap.size = w3.heap.size + 1 := by rw [hW3]; simp
  rw [← hW3]
  clear hW3
  go_wp2_with fail
  refine (loop_any g s i2 W3 HPW3.out).mono ?_
  intro e w4 hl
  unfold LRet at hl
  rw [HWR.out] at hl
  obtain ⟨N, hN⟩ : ∃ N, nameAt r = N := ⟨_, rfl⟩
  rw [hN] at hl
  have HN := Lib.hid hN
  have hge : g < w3.heap.size := HP3.out.b.lt
  cases N with
  | none =>
    obtain ⟨rfl, rfl⟩ := hl
    have hend : R = .err (placeF s.data.toList.length r) := by rw [HRR.out, HN.out]
    go_wp2_with fail
    refine ⟨rfl, ?_⟩
    rw [hend]
    exact ⟨rfl, HKW3.out⟩
  | some nm =>
    obtain ⟨i3, rfl, hwi3, hp4, hk4⟩ := hl
    have hnl := name_len (s := s) (i := i2) (by rw [HWR.out]; exact hN) hs4
    have HNL := Lib.hid (show nm.length ≤ maxLen by unfold maxLen; omega)
    obtain ⟨v4, hv4⟩ : ∃ v4, tb nm = v4 := ⟨_, rfl⟩
    have HV4 := Lib.hid hv4
    have HRT := Lib.hid (show R = takeF s.data.toList.length [41] (wordsOf s.data.toList i3) fun l => .ok [nameE 3 0 nm []] l by rw [HRR.out, HN.out, hwi3])
    have HK4 := Lib.hid (HKW3.out.trans hk4)
    have B4 := HBE3.out.kp hk4 (by omega)
    have HB4 := Lib.hid B4
    have HP4 := Lib.hid hp4
    have HBR4 := Lib.hid (HBRW3.out.kp hk4 (by omega))
    have hsz4 : W3.heap.size ≤ w4.heap.size := hk4.size
    have HN4 := Lib.hid (show ExIn w4 (fun b => w3.heap.size < b) w4.heap.size (nameE 3 0 nm []) (exCells (nameE 3 0 nm []) none 0 none 0) from
      nameE_inP (B := w4.heap.size) (css := []) 3 0 nm HNL.out ⟨rfl, fun j h => absurd h (by simp)⟩ (fun k hk => by omega) ⟨rfl, .inl ⟨rfl, rfl⟩⟩ (Nat.zero_le _))
    rw [hv4]
    clear hN hv4 hwi3 hp4 hk4 hnl
    have fc0 : w4.cell? ⟨w3.heap.size, 0, none⟩ = some (.int .i64 3) := B4.cell 0
    have fz0 : w4.frozen? ⟨w3.heap.size, 0, none⟩ = false := B4.frozen 0
    have fc1 : w4.cell? ⟨w3.heap.size, 1, none⟩ = some (.int .i64 0) := B4.cell 1
    have fz1 : w4.frozen? ⟨w3.heap.size, 1, none⟩ = false := B4.frozen 1
    have fc2 : w4.cell? ⟨w3.heap.size, 2, none⟩ = some (.string ⟨#[]⟩) := B4.cell 2
    have fz2 : w4.frozen? ⟨w3.heap.size, 2, none⟩ = false := B4.frozen 2
    have fc3 : w4.cell? ⟨w3.heap.size, 3, none⟩ = some (.int .i64 0) := B4.cell 3
    have fz3 : w4.frozen? ⟨w3.heap.size, 3, none⟩ = false := B4.frozen 3
    have fc4 : w4.cell? ⟨w3.heap.size, 4, none⟩ = some (.int .i64 0) := B4.cell 4
    have fz4 : w4.frozen? ⟨w3.heap.size, 4, none⟩ = false := B4.frozen 4
    have fc5 : w4.cell? ⟨w3.heap.size, 5, none⟩ = some (.string ⟨#[]⟩) := B4.cell 5
    have fz5 : w4.frozen? ⟨w3.heap.size, 5, none⟩ = false := B4.frozen 5
    have fc6 : w4.cell? ⟨w3.heap.size, 6, none⟩ = some (.slice none 0 0) := B4.cell 6
    have fz6 : w4.frozen? ⟨w3.heap.size, 6, none⟩ = false := B4.frozen 6
    have fc7 : w4.cell? ⟨w3.heap.size, 7, none⟩ = some (.slice none 0 0) := B4.cell 7
    have fz7 : w4.frozen? ⟨w3.heap.size, 7, none⟩ = false := B4.frozen 7
    go_wp2_with fail
    obtain ⟨WT, hWT⟩ : ∃ WT, WT = w4.setCell ⟨w3.heap.size, 2, none⟩ (.string v4) := ⟨_, rfl⟩
    have hfar : ∀ k, k ≠ w3.heap.size → WT.heap[k]? = w4.heap[k]? := fun k hk => by rw [hWT]; exact Below.heap_setCell w4 ⟨w3.heap.size, 2, none⟩ _ k hk
    have hszT : WT.heap.size = w4.heap.size := by rw [hWT]; simp [World.setCell]
    have HPT := Lib.hid (HP4.out.kp (hfar g (by omega)))
    have HKT := Lib.hid (show Kp g w WT by rw [hWT]; exact kp_setCell HK4.out (by omega) _ _)
    have HBET := Lib.hid (show Blk WT w3.heap.size 27 #[.int .i64 3, .int .i64 0, .string v4, .int .i64 0, .int .i64 0, .string ⟨#[]⟩, .slice none 0 0, .slice none 0 0] by
      rw [hWT]
      have h1 := HB4.out.set_ 2 (.string v4)
      simpa using h1)
    have HBRT := Lib.hid (show Blk WT w.heap.size 27 #[.int .i64 0, .int .i64 0, .string ⟨#[]⟩, .int .i64 0, .int .i64 0, .string ⟨#[]⟩, .slice none 0 0, .slice none 0 0] by unfold Blk; rw [hfar _ (by omega)]; exact HBR4.out)
    have HXT := Lib.hid ((HN4.out.keep ⟨by omega, fun k hk _ => hfar k (by omega)⟩).up (show w4.heap.size ≤ WT.heap.size by omega))
    rw [← hWT]
    clear hWT B4
    have HTKT := take_any g s i3 WT HPT.out [41] (by decide)
    obtain ⟨i6, hi6⟩ : ∃ i6, curAt s i3 + (curTx s i3).length = i6 := ⟨_, rfl⟩
    have htl := fun h => words_tail (s := s) (i := i3) (word := [41]) h
    rw [show tb [41] = ⟨#[41]⟩ from rfl, hi6] at HTKT
    rw [hi6] at htl
    refine HTKT.mono ?_
    intro e w8 htk
    obtain ⟨b5, hb5⟩ : ∃ b, isW (wordsOf s.data.toList i3) [41] = b := ⟨_, rfl⟩
    rw [hb5] at htk
    cases b5
    · rw [if_neg (by decide)] at htk
      obtain ⟨rfl, rfl⟩ := htk
      have hend : R = .err (curAt s i3) := by rw [HRT.out]; unfold takeF; rw [if_neg (by rw [hb5]; decide), place_cur]
      have HEND := Lib.hid hend
      clear hend HTKT htl hi6
      go_wp2_with fail
      refine ⟨rfl, ?_⟩
      rw [HEND.out]
      exact ⟨rfl, HKT.out⟩
    · rw [if_pos rfl] at htk
      obtain ⟨rfl, hp8, hk8⟩ := htk
      have hend : R = .ok [nameE 3 0 nm []] (wordsOf s.data.toList i6) := by rw [HRT.out]; unfold takeF; rw [if_pos hb5, ← (htl hb5).1]
      have HEND := Lib.hid hend
      have HX8 := Lib.hid (HXT.out.kpq hk8 (fun k hk => by omega))
      have HP8 := Lib.hid hp8
      have HK8 := Lib.hid (HKT.out.trans hk8)
      have B8 := HBET.out.kp hk8 (by omega)
      have BR8 := HBRT.out.kp hk8 (by omega)
      clear hend HTKT htl hi6 hb5 hp8 hk8
      have ec0 : w8.cell? ⟨w3.heap.size, 0, none⟩ = some (.int .i64 3) := B8.cell 0
      have ec1 : w8.cell? ⟨w3.heap.size, 1, none⟩ = some (.int .i64 0) := B8.cell 1
      have ec2 : w8.cell? ⟨w3.heap.size, 2, none⟩ = some (.string v4) := B8.cell 2
      have ec3 : w8.cell? ⟨w3.heap.size, 3, none⟩ = some (.int .i64 0) := B8.cell 3
      have ec4 : w8.cell? ⟨w3.heap.size, 4, none⟩ = some (.int .i64 0) := B8.cell 4
      have ec5 : w8.cell? ⟨w3.heap.size, 5, none⟩ = some (.string ⟨#[]⟩) := B8.cell 5
      have ec6 : w8.cell? ⟨w3.heap.size, 6, none⟩ = some (.slice none 0 0) := B8.cell 6
      have ec7 : w8.cell? ⟨w3.heap.size, 7, none⟩ = some (.slice none 0 0) := B8.cell 7
      have rc0 : w8.cell? ⟨w.heap.size, 0, none⟩ = some (.int .i64 0) := BR8.cell 0
      have rz0 : w8.frozen? ⟨w.heap.size, 0, none⟩ = false := BR8.frozen 0
      have rc1 : w8.cell? ⟨w.heap.size, 1, none⟩ = some (.int .i64 0) := BR8.cell 1
      have rz1 : w8.frozen? ⟨w.heap.size, 1, none⟩ = false := BR8.frozen 1
      have rc2 : w8.cell? ⟨w.heap.size, 2, none⟩ = some (.string ⟨#[]⟩) := BR8.cell 2
      have rz2 : w8.frozen? ⟨w.heap.size, 2, none⟩ = false := BR8.frozen 2
      have rc3 : w8.cell? ⟨w.heap.size, 3, none⟩ = some (.int .i64 0) := BR8.cell 3
      have rz3 : w8.frozen? ⟨w.heap.size, 3, none⟩ = false := BR8.frozen 3
      have rc4 : w8.cell? ⟨w.heap.size, 4, none⟩ = some (.int .i64 0) := BR8.cell 4
      have rz4 : w8.frozen? ⟨w.heap.size, 4, none⟩ = false := BR8.frozen 4
      have rc5 : w8.cell? ⟨w.heap.size, 5, none⟩ = some (.string ⟨#[]⟩) := BR8.cell 5
      have rz5 : w8.frozen? ⟨w.heap.size, 5, none⟩ = false := BR8.frozen 5
      have rc6 : w8.cell? ⟨w.heap.size, 6, none⟩ = some (.slice none 0 0) := BR8.cell 6
      have rz6 : w8.frozen? ⟨w.heap.size, 6, none⟩ = false := BR8.frozen 6
      have rc7 : w8.cell? ⟨w.heap.size, 7, none⟩ = some (.slice none 0 0) := BR8.cell 7
      have rz7 : w8.frozen? ⟨w.heap.size, 7, none⟩ = false := BR8.frozen 7
      go_wp2_with fail
      refine bodyPost_ret (v := .tuple #[.agg #[.int .i64 3, .int .i64 0, .string v4, .int .i64 0, .int .i64 0, .string ⟨#[]⟩, .slice none 0 0, .slice none 0 0], .bool true]) (by simp [results, Tryz.results170, go_sem, rc0, rc1, rc2, rc3, rc4, rc5, rc6, rc7]) rfl ?_
      rw [HEND.out]
      have hv4 := HV4.out
      subst hv4
      exact cret8 (L := w3.heap.size) (x := nameE 3 0 nm []) (A := none) (c := 0) (A' := none) (c' := 0) HX8.out (by omega) hlt HP8.out HK8.out
set_option maxHeartbeats 2000000 in
set_option maxRecDepth 100000 in
theorem call_none (g : Nat) (w : World) (x : List UInt8) (ho : overOf x = 0) (hq : opOf x = 0) (hx : x ≠ rowW) :
    Calls Tryz.prog 170 #[.pointer (some ⟨g, 0, none⟩), .string (tb x)] w fun e w' => e = .returned (.tuple #[.agg #[.int .i64 0, .int .i64 0, .string ⟨#[]⟩, .int .i64 0, .int .i64 0, .string ⟨#[]⟩, .slice none 0 0, .slice none 0 0], .bool false]) ∧ Below w.heap.size w w' := by
  obtain ⟨v, hv⟩ : ∃ v, tb x = v := ⟨_, rfl⟩
  have HOVA := Lib.hid (fun w' => hv ▸ overOf_any x w')
  have HOPA := Lib.hid (fun w' => hv ▸ opOf_any x w')
  rw [ho] at HOVA
  rw [hq] at HOPA
  have bs0 : (v.toList == (⟨#[114, 111, 119]⟩ : ByteArray).toList) = false := strEq_false (fun e => by
    have e2 : x = rowW := by rw [← tb_data x, hv, e]; rfl
    exact hx e2)
  have bs : (v.toList == [114, 111, 119]) = false := by simpa using bs0
  clear bs0
  rw [hv]
  clear hv ho hq hx
  go_enter Tryz.func170, Tryz.ntmps170
  go_upto_region 1 with (fail)
  obtain ⟨W, hW⟩ : ∃ W, W = w.alloc (.cells #[.int .i64 0, .int .i64 0, .string ⟨#[]⟩, .int .i64 0, .int .i64 0, .string ⟨#[]⟩, .slice none 0 0, .slice none 0 0] 27 (0, 0)) := ⟨_, rfl⟩
  have hbW : Below w.heap.size w W := by rw [hW]; exact (Below.refl _ w).alloc (Nat.le_refl _) _
  have HBR := Lib.hid (show Blk W w.heap.size 27 #[.int .i64 0, .int .i64 0, .string ⟨#[]⟩, .int .i64 0, .int .i64 0, .string ⟨#[]⟩, .slice none 0 0, .slice none 0 0] by rw [hW]; exact Blk.new w _ _)
  rw [← hW]
  clear hW
  go_wp2_with fail
  refine (HOVA.out W).mono ?_
  rintro e wa ⟨rfl, hba⟩
  go_wp2_with fail
  refine (HOPA.out wa).mono ?_
  rintro e wb ⟨rfl, hbb⟩
  have hbw : Below W.heap.size W wb := hba.trans (hbb.mono hba.size)
  have hbw0 := hbW.trans (hbw.mono hbW.size)
  have B9 := HBR.out.below hbw HBR.out.lt
  clear hba hbb hbw
  have rc0 : wb.cell? ⟨w.heap.size, 0, none⟩ = some (.int .i64 0) := B9.cell 0
  have rz0 : wb.frozen? ⟨w.heap.size, 0, none⟩ = false := B9.frozen 0
  have rc1 : wb.cell? ⟨w.heap.size, 1, none⟩ = some (.int .i64 0) := B9.cell 1
  have rz1 : wb.frozen? ⟨w.heap.size, 1, none⟩ = false := B9.frozen 1
  have rc2 : wb.cell? ⟨w.heap.size, 2, none⟩ = some (.string ⟨#[]⟩) := B9.cell 2
  have rz2 : wb.frozen? ⟨w.heap.size, 2, none⟩ = false := B9.frozen 2
  have rc3 : wb.cell? ⟨w.heap.size, 3, none⟩ = some (.int .i64 0) := B9.cell 3
  have rz3 : wb.frozen? ⟨w.heap.size, 3, none⟩ = false := B9.frozen 3
  have rc4 : wb.cell? ⟨w.heap.size, 4, none⟩ = some (.int .i64 0) := B9.cell 4
  have rz4 : wb.frozen? ⟨w.heap.size, 4, none⟩ = false := B9.frozen 4
  have rc5 : wb.cell? ⟨w.heap.size, 5, none⟩ = some (.string ⟨#[]⟩) := B9.cell 5
  have rz5 : wb.frozen? ⟨w.heap.size, 5, none⟩ = false := B9.frozen 5
  have rc6 : wb.cell? ⟨w.heap.size, 6, none⟩ = some (.slice none 0 0) := B9.cell 6
  have rz6 : wb.frozen? ⟨w.heap.size, 6, none⟩ = false := B9.frozen 6
  have rc7 : wb.cell? ⟨w.heap.size, 7, none⟩ = some (.slice none 0 0) := B9.cell 7
  have rz7 : wb.frozen? ⟨w.heap.size, 7, none⟩ = false := B9.frozen 7
  go_wp2_with fail
  refine bodyPost_ret (v := .tuple #[.agg #[.int .i64 0, .int .i64 0, .string ⟨#[]⟩, .int .i64 0, .int .i64 0, .string ⟨#[]⟩, .slice none 0 0, .slice none 0 0], .bool false]) (by simp [results, Tryz.results170, go_sem, rc0, rc1, rc2, rc3, rc4, rc5, rc6, rc7]) rfl ⟨rfl, ?_⟩
  exact ((((((((hbw0.setCell (p := ⟨w.heap.size, 0, none⟩) (Nat.le_refl _) _).setCell (p := ⟨w.heap.size, 1, none⟩) (Nat.le_refl _) _).setCell (p := ⟨w.heap.size, 2, none⟩) (Nat.le_refl _) _).setCell (p := ⟨w.heap.size, 3, none⟩) (Nat.le_refl _) _).setCell (p := ⟨w.heap.size, 4, none⟩) (Nat.le_refl _) _).setCell (p := ⟨w.heap.size, 5, none⟩) (Nat.le_refl _) _).setCell (p := ⟨w.heap.size, 6, none⟩) (Nat.le_refl _) _).setCell (p := ⟨w.heap.size, 7, none⟩) (Nat.le_refl _) _)
end Go.Proofs.YtobanldeicclmaaGreatDoor
namespace Go.Proofs.YtobanldeicclmaaGreatDoor
open Go.RowKit Vtx
theorem dropW_span (p : UInt8 → Bool) : ∀ l : List UInt8, l.dropWhile p = l.drop (spanP p l)
  | [] => rfl
  | c :: r => by
    rw [List.dropWhile_cons, spanP]
    cases h : p c
    · simp
    · simp [dropW_span p r]
theorem tight_go {T s acc : List UInt8} {n : Nat} (h : n < s.length) (hc : s.getD n 0 ≠ 32) (hr : T = acc ++ tqO acc.getLast? (s.drop n)) : T = (acc ++ [s.getD n 0]) ++ tqO (acc ++ [s.getD n 0]).getLast? (s.drop (n + 1)) := by
  rw [hr, drop_cons h, tq_cons _ _ hc]
  simp
theorem tight_skip {T s acc : List UInt8} {n J : Nat} (h : n < s.length) (hc : s.getD n 0 = 32) (hJ : J = n + spanP blankB (s.drop n)) (hr : T = acc ++ tqO acc.getLast? (s.drop n)) :
    T = acc ++ if keepO acc.getLast? (s.drop J) then 32 :: tqO (some 32) (s.drop J) else tqO acc.getLast? (s.drop J) := by
  have e1 : s.drop n = 32 :: s.drop (n + 1) := by rw [drop_cons h, hc]
  have e2 : (s.drop (n + 1)).dropWhile blankB = s.drop J := by
    have h1 : (s.drop n).dropWhile blankB = (s.drop (n + 1)).dropWhile blankB := by rw [e1, List.dropWhile_cons]; rfl
    rw [← h1, dropW_span, List.drop_drop, hJ]
  rw [hr, e1, tq_blank, e2]
theorem keep_none {s acc : List UInt8} {J : Nat} (h : ¬ J < s.length) : keepO acc.getLast? (s.drop J) = false := by
  rw [List.drop_eq_nil_of_le (by omega)]
  unfold keepO
  cases acc.getLast? <;> rfl
theorem keep_last {s acc : List UInt8} {a : UInt8} {J : Nat} (h : J < s.length) : keepO (acc ++ [a]).getLast? (s.drop J) = ((digB a || decide (a = 35)) && digB (s.getD J 0)) := by
  rw [drop_cons h, List.getLast?_append]
  rfl
theorem tight_yes {T s acc : List UInt8} {J : Nat} (hk : keepO acc.getLast? (s.drop J) = true) (h : T = acc ++ if keepO acc.getLast? (s.drop J) then 32 :: tqO (some 32) (s.drop J) else tqO acc.getLast? (s.drop J)) : T = (acc ++ [32]) ++ tqO (acc ++ [32]).getLast? (s.drop J) := by
  rw [h, if_pos hk]; simp
theorem tight_no {T s acc : List UInt8} {J : Nat} (hk : keepO acc.getLast? (s.drop J) = false) (h : T = acc ++ if keepO acc.getLast? (s.drop J) then 32 :: tqO (some 32) (s.drop J) else tqO acc.getLast? (s.drop J)) : T = acc ++ tqO acc.getLast? (s.drop J) := by
  rw [h, if_neg (by rw [hk]; decide)]
end Go.Proofs.YtobanldeicclmaaGreatDoor
namespace Go.Proofs.YtobanldeicclmaaGreatDoor
open Go.RowKit Vtx
attribute [local go_sem ↓] Go.wp_at_zero Go.wp_at_succ
def byteV (l : List UInt8) : List Value := l.map (fun x => .int .u8 (x.toNat : Nat))
theorem infoU8 : (Tryz.prog.info? 5).map (fun i => (i.zero, i.size, i.bytes)) = some (some (.int .u8 0), 1, 1) := by kernel_rfl
theorem blank_of {c : UInt8} (h : c.toNat = 32) : c = 32 := UInt8.toNat_inj.1 h
set_option maxHeartbeats 4000000 in
set_option maxRecDepth 100000 in
theorem tight_any (s : ByteArray) (w : World) (hs : s.size ≤ 4000) : Calls Tryz.prog 181 #[.string s] w fun e w' => e = .returned (.string (tb (tightT s.data.toList))) ∧ Below w.heap.size w w' := by
  obtain ⟨T, hT⟩ : ∃ T, tightT s.data.toList = T := ⟨_, rfl⟩
  have HT0 := Lib.hid (show T = [] ++ tqO ([] : List UInt8).getLast? (s.data.toList.drop 0) by rw [← hT, tight_is]; rfl)
  rw [hT]
  clear hT
  obtain ⟨i0, hi0, hz0, hz1, hz2⟩ := info_parts infoU8
  go_enter Tryz.func181, Tryz.ntmps181
  go_wp2_with fail
  go_loopw [4, 3, 5] (fun iv ov _ wz => ∃ (n : Nat) (acc : List UInt8) (A : Option Addr) (c : Nat), iv = .int .i64 (n : Nat) ∧ ov = .slice A acc.length c ∧ Hid (n ≤ s.size) ∧ Hid (acc.length ≤ n) ∧ Hid (wz.ownsRow w.heap.size 5 1 (.slice A acc.length c) acc.length (byteV acc)) ∧ Hid (T = acc ++ tqO acc.getLast? (s.data.toList.drop n)) ∧ Below w.heap.size w wz) (fun iv _ _ _ => s.size - (intOf iv).toNat)
  case atStart => exact ⟨0, [], none, 0, rfl, rfl, Lib.hid (Nat.zero_le _), Lib.hid (Nat.le_refl _), Lib.hid ⟨rfl, .inl ⟨rfl, rfl⟩⟩, HT0, Below.refl _ _⟩
  case round =>
    obtain ⟨n, acc, A, c, rfl, rfl, HNS, HAL, HO, HTT, hbr⟩ := hrel
    by_cases hlt : n < s.size
    · have HLT := Lib.hid hlt
      obtain ⟨M, hM⟩ : ∃ M, acc.length = M := ⟨_, rfl⟩
      have HM := Lib.hid hM
      rw [hM] at HO
      rw [hM]
      have HN := Lib.hid (show M ≤ 4000 by have := HAL.out; omega)
      have hlti : ((n : Nat) : Int) < ((s.size : Nat) : Int) := by omega
      by_cases h32 : (s[n]'hlt).toNat = 32
      · obtain ⟨J, hJ⟩ : ∃ J, J = n + spanP blankB (s.data.toList.drop n) := ⟨_, rfl⟩
        have HSK := Lib.hid (tight_skip (n := n) (by rw [data_len]; exact hlt) (by rw [getD_ba hlt]; exact blank_of h32) hJ HTT.out)
        have hJ1 : n + 1 ≤ J := by
          have h1 := span_step hlt (show blankB (s[n]'hlt) = true from decide_eq_true (blank_of h32)) hJ
          omega
        have HJ1 := Lib.hid hJ1
        have hJb : J ≤ s.size := by
          have h1 := span_le blankB (s.data.toList.drop n)
          rw [List.length_drop, data_len] at h1
          omega
        have HJB := Lib.hid hJb
        have HJJ := Lib.hid hJ
        have b1 : (((s[n]'hlt).toNat : Int) == 32) = true := by simp; omega
        have b1' : ((s[n]'hlt).toNat == 32) = true := by simp; omega
        have hJw1 : IntKind.i64.wrap (((J : Nat) : Int) - 1) = ((J - 1 : Nat) : Int) := by rw [show ((J : Nat) : Int) - 1 = ((J - 1 : Nat) : Int) by omega]; exact IntWalk.i64_in _ (by omega)
        have hJw2 : IntKind.i64.wrap (((J - 1 : Nat) : Int) + 1) = ((J : Nat) : Int) := by rw [show ((J - 1 : Nat) : Int) + 1 = ((J : Nat) : Int) by omega]; exact IntWalk.i64_in _ (by omega)
        have HOA := Lib.hid (show Hid (wr.ownsRow w.heap.size 5 1 (.slice A acc.length c) acc.length (byteV acc)) from Lib.hid (by rw [HM.out]; exact HO.out))
        clear h32 hJ
        go_wp2_with fail
        go_loop [5] (fun x => ∃ m : Nat, n ≤ m ∧ m ≤ s.size ∧ x = .int .i64 m ∧ Hid (J = m + spanP blankB (s.data.toList.drop m))) (fun x => s.size - (intOf x).toNat)
        case atStart => exact ⟨n, Nat.le_refl _, HNS.out, rfl, HJJ⟩
        case round =>
          obtain ⟨m, hnm, hm, rfl, HR⟩ := hrel
          by_cases hmlt : m < s.size
          · have HMLT := Lib.hid hmlt
            have hmlti : ((m : Nat) : Int) < ((s.size : Nat) : Int) := by omega
            by_cases h32 : (s[m]'hmlt).toNat = 32
            · have HG := Lib.hid (span_step hmlt (show blankB (s[m]'hmlt) = true from decide_eq_true (blank_of h32)) HR.out)
              have b2 : (((s[m]'hmlt).toNat : Int) == 32) = true := by simp; omega
              clear h32
              go_wp2_with fail
              go_round
              case rel => exact ⟨m + 1, by omega, HMLT.out, by go_num, HG⟩
              case measure =>
                have := HMLT.out
                simp [intOf]
                omega
            · have hJn := span_last hmlt (show blankB (s[m]'hmlt) = false from decide_eq_false (fun e => h32 (by rw [e]; rfl))) HR.out
              have b2 : (((s[m]'hmlt).toNat : Int) == 32) = false := by simp; omega
              subst hJn
              obtain ⟨q, hq⟩ : ∃ q, digB (s[J]'hmlt) = q := ⟨_, rfl⟩
              have HDQ := Lib.hid (fun w' => (show Calls Tryz.prog 80 #[.int .u8 ((s[J]'hmlt).toNat : Nat)] w' fun e w'' => e = .returned (.bool q) ∧ w' = w'' from (isDigit_any (s[J]'hmlt) w').mono fun e w'' ⟨he, hw⟩ => ⟨he.trans (congrArg (fun x => Ending.returned (.bool x)) hq), hw⟩))
              by_cases hM0 : 0 < M
              · obtain ⟨acc0, a, hacc⟩ : ∃ acc0 a, acc = acc0 ++ [a] := by
                  have hne : acc ≠ [] := by intro e; rw [e] at hM; simp at hM; omega
                  exact ⟨acc.dropLast, acc.getLast hne, (List.dropLast_concat_getLast hne).symm⟩
                obtain ⟨ad, hA, -, hcell⟩ := (Reads.of_own HO.out).2 hM0
                subst hA
                have hl0 : acc0.length = M - 1 := by have h := hM; rw [hacc] at h; simp at h; omega
                have fcl : wr.cell? (ad.add (M - 1)) = some (.int .u8 (a.toNat : Nat)) := hcell (M - 1) _ (by rw [hacc]; unfold byteV; simp [← hl0])
                have hM1 : IntKind.i64.wrap (((M : Nat) : Int) - 1) = ((M - 1 : Nat) : Int) := by rw [show ((M : Nat) : Int) - 1 = ((M - 1 : Nat) : Int) by omega]; exact IntWalk.i64_in _ (by have := HN.out; omega)
                have hM2 : M - 1 < M := by omega
                have hM3 : (0 : Int) < ((M : Nat) : Int) := by omega
                have hM4 : ((M - 1 : Nat) : Int) < ((M : Nat) : Int) := by omega
                have hM5 : (0 : Int) ≤ ((M - 1 : Nat) : Int) := by omega
                have HK := Lib.hid (show keepO acc.getLast? (s.data.toList.drop J) = ((digB a || decide (a = 35)) && q) by rw [hacc, keep_last (by rw [data_len]; exact hmlt), getD_ba hmlt, hq])
                obtain ⟨d, hd⟩ : ∃ d, digB a = d := ⟨_, rfl⟩
                have HDA := Lib.hid (fun w' => (show Calls Tryz.prog 80 #[.int .u8 (a.toNat : Nat)] w' fun e w'' => e = .returned (.bool d) ∧ w' = w'' from (isDigit_any a w').mono fun e w'' ⟨he, hw⟩ => ⟨he.trans (congrArg (fun x => Ending.returned (.bool x)) hd), hw⟩))
                rw [hd] at HK
                clear hcell hl0 hacc hd hq h32
                cases d
                · by_cases he : a = 35
                  · have be : ((a.toNat : Int) == 35) = true := by rw [he]; rfl
                    have be' : (a.toNat == 35) = true := by rw [he]; rfl
                    rw [decide_eq_true he] at HK
                    clear he
                    cases q
                    · have HKN := Lib.hid (show keepO acc.getLast? (s.data.toList.drop J) = false from HK.out)
                      have HT2 := Lib.hid (tight_no (HKN.out) HSK.out)
                      go_wp2_with (first | (go_at_call 80; (with_reducible refine (HDA.out _).mono ?_); rintro e w1 ⟨rfl, rfl⟩) | (go_at_call 80; (with_reducible refine (HDQ.out _).mono ?_); rintro e w1 ⟨rfl, rfl⟩))
                      go_roundw
                      case rel => exact ⟨J, acc, _, c, rfl, by rw [HM.out], HJB, Lib.hid (by have := HAL.out; have := HJ1.out; omega), HOA.out, HT2, hbr⟩
                      case measure =>
                        have := HJ1.out
                        have := HJB.out
                        simp [intOf]
                        omega
                    · have HKY := Lib.hid (show keepO acc.getLast? (s.data.toList.drop J) = true from HK.out)
                      have HT2 := Lib.hid (tight_yes HKY.out HSK.out)
                      go_upto_region 11 with (first | (go_at_call 80; (with_reducible refine (HDA.out _).mono ?_); rintro e w1 ⟨rfl, rfl⟩) | (go_at_call 80; (with_reducible refine (HDQ.out _).mono ?_); rintro e w1 ⟨rfl, rfl⟩))
                      go_wp2_with (at_builtin; refine wpList_append_lies _ rfl _ _ 96 rfl w.heap.size 5 i0 (.int .u8 0) 1 1 Tryz.underlying96 hi0 hz0 hz1 hz2 rfl (by decide) _ _ _ rfl (HO.out.alloc _) ⟨wr.heap.size, 0, none⟩ 1 1 [.int .u8 32] rfl rfl ?d1 ?d2 (by decide) ?d3 ?d4 ?d5 _ rfl ?_)
                      case d1 => exact World.news_of_block (Blk.new wr 5 _)
                      case d2 => intro u hu; simp only [List.mem_singleton] at hu; subst hu; rfl
                      case d3 => have := HN.out; unfold maxLen; omega
                      case d4 => have := HN.out; omega
                      case d5 => have := hbr.size; simp; omega
                      intro g7 cap w7 hown7 hg7 hat7 hlt7
                      have hbr7 : Below w.heap.size w w7 := (hbr.alloc hbr.size _).grown hg7 (by have := hbr.size; simp; omega) (fun k hk => (HO.out.lt k hk).1)
                      have HO7 := Lib.hid hown7
                      have e1 : (acc ++ [(32 : UInt8)]).length = M + 1 := by rw [List.length_append, HM.out]; rfl
                      have e2 : byteV (acc ++ [(32 : UInt8)]) = byteV acc ++ [.int .u8 32] := by simp [byteV]
                      have HO8 := Lib.hid (show w7.ownsRow w.heap.size 5 1 (.slice (some ⟨g7, 0, none⟩) (acc ++ [(32 : UInt8)]).length cap) (acc ++ [(32 : UInt8)]).length (byteV (acc ++ [(32 : UInt8)])) by rw [e1, e2]; exact HO7.out)
                      have E1 := Lib.hid e1
                      clear hown7 hg7 hat7 hlt7 e1 e2
                      go_wp2_with fail
                      go_roundw
                      case rel => exact ⟨J, acc ++ [32], _, _, rfl, by rw [E1.out], HJB, Lib.hid (by rw [E1.out]; have := HAL.out; have := HM.out; have := HJ1.out; omega), HO8, HT2, hbr7⟩
                      case measure =>
                        have := HJ1.out
                        have := HJB.out
                        simp [intOf]
                        omega
                  · have be : ((a.toNat : Int) == 35) = false := by
                      have h1 : a.toNat ≠ 35 := fun e => he (UInt8.toNat_inj.1 e)
                      simp; omega
                    have be' : (a.toNat == 35) = false := by
                      have h1 : a.toNat ≠ 35 := fun e => he (UInt8.toNat_inj.1 e)
                      simp; omega
                    rw [decide_eq_false he] at HK
                    clear he
                    have HKN := Lib.hid (show keepO acc.getLast? (s.data.toList.drop J) = false from HK.out)
                    have HT2 := Lib.hid (tight_no (HKN.out) HSK.out)
                    go_wp2_with (first | (go_at_call 80; (with_reducible refine (HDA.out _).mono ?_); rintro e w1 ⟨rfl, rfl⟩) | (go_at_call 80; (with_reducible refine (HDQ.out _).mono ?_); rintro e w1 ⟨rfl, rfl⟩))
                    go_roundw
                    case rel => exact ⟨J, acc, _, c, rfl, by rw [HM.out], HJB, Lib.hid (by have := HAL.out; have := HJ1.out; omega), HOA.out, HT2, hbr⟩
                    case measure =>
                      have := HJ1.out
                      have := HJB.out
                      simp [intOf]
                      omega
                · cases q
                  · have HKN := Lib.hid (show keepO acc.getLast? (s.data.toList.drop J) = false from HK.out)
                    have HT2 := Lib.hid (tight_no (HKN.out) HSK.out)
                    go_wp2_with (first | (go_at_call 80; (with_reducible refine (HDA.out _).mono ?_); rintro e w1 ⟨rfl, rfl⟩) | (go_at_call 80; (with_reducible refine (HDQ.out _).mono ?_); rintro e w1 ⟨rfl, rfl⟩))
                    go_roundw
                    case rel => exact ⟨J, acc, _, c, rfl, by rw [HM.out], HJB, Lib.hid (by have := HAL.out; have := HJ1.out; omega), HOA.out, HT2, hbr⟩
                    case measure =>
                      have := HJ1.out
                      have := HJB.out
                      simp [intOf]
                      omega
                  · have HKY := Lib.hid (show keepO acc.getLast? (s.data.toList.drop J) = true from HK.out)
                    have HT2 := Lib.hid (tight_yes HKY.out HSK.out)
                    go_upto_region 11 with (first | (go_at_call 80; (with_reducible refine (HDA.out _).mono ?_); rintro e w1 ⟨rfl, rfl⟩) | (go_at_call 80; (with_reducible refine (HDQ.out _).mono ?_); rintro e w1 ⟨rfl, rfl⟩))
                    go_wp2_with (at_builtin; refine wpList_append_lies _ rfl _ _ 96 rfl w.heap.size 5 i0 (.int .u8 0) 1 1 Tryz.underlying96 hi0 hz0 hz1 hz2 rfl (by decide) _ _ _ rfl (HO.out.alloc _) ⟨wr.heap.size, 0, none⟩ 1 1 [.int .u8 32] rfl rfl ?d1 ?d2 (by decide) ?d3 ?d4 ?d5 _ rfl ?_)
                    case d1 => exact World.news_of_block (Blk.new wr 5 _)
                    case d2 => intro u hu; simp only [List.mem_singleton] at hu; subst hu; rfl
                    case d3 => have := HN.out; unfold maxLen; omega
                    case d4 => have := HN.out; omega
                    case d5 => have := hbr.size; simp; omega
                    intro g7 cap w7 hown7 hg7 hat7 hlt7
                    have hbr7 : Below w.heap.size w w7 := (hbr.alloc hbr.size _).grown hg7 (by have := hbr.size; simp; omega) (fun k hk => (HO.out.lt k hk).1)
                    have HO7 := Lib.hid hown7
                    have e1 : (acc ++ [(32 : UInt8)]).length = M + 1 := by rw [List.length_append, HM.out]; rfl
                    have e2 : byteV (acc ++ [(32 : UInt8)]) = byteV acc ++ [.int .u8 32] := by simp [byteV]
                    have HO8 := Lib.hid (show w7.ownsRow w.heap.size 5 1 (.slice (some ⟨g7, 0, none⟩) (acc ++ [(32 : UInt8)]).length cap) (acc ++ [(32 : UInt8)]).length (byteV (acc ++ [(32 : UInt8)])) by rw [e1, e2]; exact HO7.out)
                    have E1 := Lib.hid e1
                    clear hown7 hg7 hat7 hlt7 e1 e2
                    go_wp2_with fail
                    go_roundw
                    case rel => exact ⟨J, acc ++ [32], _, _, rfl, by rw [E1.out], HJB, Lib.hid (by rw [E1.out]; have := HAL.out; have := HM.out; have := HJ1.out; omega), HO8, HT2, hbr7⟩
                    case measure =>
                      have := HJ1.out
                      have := HJB.out
                      simp [intOf]
                      omega
              · have hM00 : M = 0 := by omega
                subst hM00
                have hacc : acc = [] := List.length_eq_zero_iff.1 hM
                have hkn : keepO acc.getLast? (s.data.toList.drop J) = false := by rw [hacc]; rfl
                have HKN := Lib.hid hkn
                clear hacc hkn h32
                have HT2 := Lib.hid (tight_no (HKN.out) HSK.out)
                go_wp2_with (first | (go_at_call 80; (with_reducible refine (HDQ.out _).mono ?_); rintro e w1 ⟨rfl, rfl⟩))
                go_roundw
                case rel => exact ⟨J, acc, _, c, rfl, by rw [HM.out], HJB, Lib.hid (by have := HAL.out; have := HJ1.out; omega), HOA.out, HT2, hbr⟩
                case measure =>
                  have := HJ1.out
                  have := HJB.out
                  simp [intOf]
                  omega
          · have hJn := span_out hmlt HR.out
            have hms : m = s.size := by omega
            subst hJn
            have hkn : keepO acc.getLast? (s.data.toList.drop J) = false := keep_none (by rw [data_len]; exact hmlt)
            have HKN := Lib.hid hkn
            have hmlti : ¬ ((J : Nat) : Int) < ((s.size : Nat) : Int) := by omega
            clear hkn hms
            have HT2 := Lib.hid (tight_no (HKN.out) HSK.out)
            go_wp2_with (fail)
            go_roundw
            case rel => exact ⟨J, acc, _, c, rfl, by rw [HM.out], HJB, Lib.hid (by have := HAL.out; have := HJ1.out; omega), HOA.out, HT2, hbr⟩
            case measure =>
              have := HJ1.out
              have := HJB.out
              simp [intOf]
              omega
      · have HT2 := Lib.hid (tight_go (n := n) (by rw [data_len]; exact hlt) (by rw [getD_ba hlt]; exact fun e => h32 (by rw [e]; rfl)) HTT.out)
        rw [getD_ba hlt] at HT2
        have b1 : (((s[n]'hlt).toNat : Int) == 32) = false := by simp; omega
        have b1' : ((s[n]'hlt).toNat == 32) = false := by simp; omega
        clear h32
        go_upto_region 6 with (fail)
        go_wp2_with (at_builtin; refine wpList_append_lies _ rfl _ _ 96 rfl w.heap.size 5 i0 (.int .u8 0) 1 1 Tryz.underlying96 hi0 hz0 hz1 hz2 rfl (by decide) _ _ _ rfl (HO.out.alloc _) ⟨wr.heap.size, 0, none⟩ 1 1 [.int .u8 ((s[n]'hlt).toNat : Nat)] rfl rfl ?d1 ?d2 (by decide) ?d3 ?d4 ?d5 _ rfl ?_)
        case d1 => exact World.news_of_block (Blk.new wr 5 _)
        case d2 => intro u hu; simp only [List.mem_singleton] at hu; subst hu; rfl
        case d3 => have := HN.out; unfold maxLen; omega
        case d4 => have := HN.out; omega
        case d5 => have := hbr.size; simp; omega
        intro g7 cap w7 hown7 hg7 hat7 hlt7
        have hbr7 : Below w.heap.size w w7 := (hbr.alloc hbr.size _).grown hg7 (by have := hbr.size; simp; omega) (fun k hk => (HO.out.lt k hk).1)
        have HO7 := Lib.hid hown7
        have e1 : (acc ++ [s[n]'hlt]).length = M + 1 := by rw [List.length_append, HM.out]; rfl
        have e2 : byteV (acc ++ [s[n]'hlt]) = byteV acc ++ [.int .u8 ((s[n]'hlt).toNat : Nat)] := by simp [byteV]
        have HO8 := Lib.hid (show w7.ownsRow w.heap.size 5 1 (.slice (some ⟨g7, 0, none⟩) (acc ++ [s[n]'hlt]).length cap) (acc ++ [s[n]'hlt]).length (byteV (acc ++ [s[n]'hlt])) by rw [e1, e2]; exact HO7.out)
        have E1 := Lib.hid e1
        clear hown7 hg7 hat7 hlt7 e1 e2
        go_wp2_with fail
        go_roundw
        case rel => exact ⟨n + 1, acc ++ [s[n]'hlt], _, _, by go_num, by rw [E1.out], HLT, Lib.hid (by rw [E1.out]; have := HAL.out; have := HM.out; omega), HO8, HT2, hbr7⟩
        case measure =>
          have := HLT.out
          simp [intOf]
          omega
    · have hns : n = s.size := by have := HNS.out; omega
      have HTE := Lib.hid (show T = acc by rw [HTT.out, List.drop_eq_nil_of_le (by rw [data_len]; omega), tq_nil, List.append_nil])
      have hlti : ¬ ((n : Nat) : Int) < ((s.size : Nat) : Int) := by omega
      have kc : (convert 96 9 (.slice A acc.length c)).run Tryz.prog wr = .ok (.string (tb acc)) wr := by
        rcases HO.out.2 with ⟨h0, h1⟩ | ⟨g', cap, cur, e0, e1, e2, e3⟩
        · injection h0 with hA hl hc
          subst hA
          have hn : acc = [] := List.length_eq_zero_iff.1 hl
          subst hn
          exact run_convert_bytes_nil wr 96 5 Tryz.underlying96 Tryz.underlying5 _ _ _ Tryz.underlying9
        · injection e0 with hA hl hc
          subst hA
          have h1 := run_convert_bytes_arg (P := Tryz.prog) wr 96 5 Tryz.underlying96 Tryz.underlying5 g' 0 acc.length c (acc.map (fun x => (x.toNat : Int))) (by simp) (fun j hj => by
            obtain ⟨ad, hA, -, hcell⟩ := (Reads.of_own HO.out).2 (by omega)
            injection hA with hA
            subst hA
            have h2 := hcell j (.int .u8 ((acc.map (fun x => (x.toNat : Int))).getD j 0)) (by unfold byteV; simp [List.getD, hj])
            have e : (⟨g', 0, none⟩ : Addr).add j = ⟨g', 0 + j, none⟩ := by unfold Addr.add; split <;> simp_all
            rw [e] at h2
            exact h2) _ Tryz.underlying9
          rw [h1]
          congr 2
          unfold tb
          refine ByteArray.ext (Array.toList_inj.1 ?_)
          rw [strOfNums_data, List.map_map]
          conv => rhs; rw [← List.map_id acc]
          refine List.map_congr_left (fun x _ => ?_)
          simp
      clear hns
      go_wp2_with fail
      go_ret
      exact ⟨by rw [HTE.out]; rfl, hbr⟩
end Go.Proofs.YtobanldeicclmaaGreatDoor
