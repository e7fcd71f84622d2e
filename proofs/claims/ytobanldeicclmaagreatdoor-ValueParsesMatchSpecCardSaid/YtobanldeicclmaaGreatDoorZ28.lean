/- Lemmas for the claim: walks and plain laws. -/
import Derived.Test.YtobanldeicclmaaGreatDoorZ27
set_option maxHeartbeats 8000000
set_option maxRecDepth 100000
namespace Go.Proofs.YtobanldeicclmaaGreatDoor
open Go.RowKit Vtx
attribute [local go_sem ↓] Go.wp_at_zero Go.wp_at_succ
theorem mF {x : List UInt8} (h : ∃ c y, x = c :: y ∧ dE c = true) : ∃ c y, x = c :: y ∧ dE c = true := h
theorem RX.Oj {p : Nat → Prop} {w : World} {n : Nat} {word : List UInt8} {r : jO} {cs : List Value} (h : RX p w r cs) : RX p w (r.bind fun es l => aN n word l fun l2 => .ok es l2) cs := fun es l e => by
 cases r with
 | err k => cases e
 | ok es0 l0 =>
  have e : aN n word l0 (fun l2 => .ok es0 l2) = .ok es l := e
  unfold aN at e
  split at e
  ·
   injection e with e1 e2
   obtain ⟨x, h1, h2⟩ := h es0 l0 rfl
   exact ⟨x, by rw [← e1, h1], h2⟩
  ·
   cases e
theorem UA {st : RM} {n : Nat} (h : (st.pk n).1 = []) (hw : ∀ t r, st = .at_ (t :: r) → bH t ≠ []) : st.P n .az = .err (st.ref n) := by
 cases st with
 | wr k => rfl
 | at_ l =>
  cases l with
  | nil =>
   show Pz n .az [] [] = _
   rw [bW]
   rfl
  | cons t r => exact absurd h (hw t r rfl)
theorem Qq (s : ByteArray) (st : RM) (h : (st.pk s.size).1 = []) : MS 162 .az s st := by
 intro g w hp hm
 have hlt := hp.lt
 have HM := qh hm
 have qf := qh hp
 have hw : ∀ t r, st = .at_ (t :: r) → bH t ≠ [] := fun t r e => by
  subst e
  obtain ⟨i, hi, hL⟩ := hp.2
  exact jy (s := s) (i := i) t r hL.symm
 have HG := qh (UA h hw)
 obtain ⟨R, hR⟩ := ae (st.P s.data.toList.length .az)
 rw [hR]
 have rD := qh (show R = .err (st.ref s.size) by rw [← hR]; exact HG.out)
 obtain ⟨a, ha⟩ := ae ((st.pk s.size).2)
 have zx := qh (show tb (st.pk s.size).1 = ⟨#[]⟩ by rw [h]; rfl)
 have jD := qh ha
 clear hp hm h hw ha
 go_enter Tryz.func162, Tryz.ntmps162
 go_upto_region 1 with (fail)
 obtain ⟨W, hW, hkW, fV, hszW, hWs, -⟩ := iV g w
 have ny := qh (show dQ W g s st by rw [hW]; exact qf.out.alloc _)
 have oZ := qh (HM.out.kp hkW)
 rw [← hW]
 clear hW
 have kY := qh (kX ny.out)
 rw [zx.out, jD.out] at kY
 go_upto_region 2 with (go_at_call 17; (with_reducible refine kY.out.mono ?_); rintro e w1 ⟨rfl, hb1⟩)
 obtain ⟨W1, hW1⟩ := au (w1.alloc (.cells #[.string ⟨#[]⟩, .int .i64 (a : Nat)] 48 (0, 0)))
 have hbW : Below W.heap.size W W1 := by rw [hW1]; exact hb1.alloc hb1.size _
 have BT : af W1 w1.heap.size 48 #[.string ⟨#[]⟩, .int .i64 (a : Nat)] := by rw [hW1]; exact af.new w1 _ _
 have hsW : W.heap.size ≤ w1.heap.size := hb1.size
 rw [← hW1]
 clear hW1 hb1
 have mW := qh (hkW.trans (Kp.of hbW))
 have qc := qh (ny.out.below hbW)
 have eG := qh (fV.out.below hbW fV.out.lt)
 obtain ⟨kD, nz⟩ := af.c2 BT
 have JV := qc
 have Il := mW
 have qi := eG
 have C9 : W.heap.size ≤ W1.heap.size := hbW.size
 have wG := qh (nO JV.out ⟨#[]⟩)
 rw [jD.out] at wG
 go_wp2_with (go_at_call 16; (with_reducible refine wG.out.mono ?_); rintro e w9 ⟨rfl, hs9, hk9⟩; have iq := qi.out.kp hk9 (by omega); have Dc := qh hs9; have Qp := qh hk9; clear hs9 hk9; have aQ : w9.cell? ⟨w.heap.size, 0, none⟩ = some (.int .i64 0) := iq.cell 0; have eX : w9.frozen? ⟨w.heap.size, 0, none⟩ = false := iq.frozen 0; have aS : w9.cell? ⟨w.heap.size, 1, none⟩ = some (.int .i64 0) := iq.cell 1; have eY : w9.frozen? ⟨w.heap.size, 1, none⟩ = false := iq.frozen 1; have aT : w9.cell? ⟨w.heap.size, 2, none⟩ = some (.string ⟨#[]⟩) := iq.cell 2; have fD : w9.frozen? ⟨w.heap.size, 2, none⟩ = false := iq.frozen 2; have aU : w9.cell? ⟨w.heap.size, 3, none⟩ = some (.int .i64 0) := iq.cell 3; have fE : w9.frozen? ⟨w.heap.size, 3, none⟩ = false := iq.frozen 3; have aY : w9.cell? ⟨w.heap.size, 4, none⟩ = some (.int .i64 0) := iq.cell 4; have jR : w9.frozen? ⟨w.heap.size, 4, none⟩ = false := iq.frozen 4; have aZ : w9.cell? ⟨w.heap.size, 5, none⟩ = some (.string ⟨#[]⟩) := iq.cell 5; have jS : w9.frozen? ⟨w.heap.size, 5, none⟩ = false := iq.frozen 5; have bu : w9.cell? ⟨w.heap.size, 6, none⟩ = some (.slice none 0 0) := iq.cell 6; have jT : w9.frozen? ⟨w.heap.size, 6, none⟩ = false := iq.frozen 6; have bz : w9.cell? ⟨w.heap.size, 7, none⟩ = some (.slice none 0 0) := iq.cell 7; have jU : w9.frozen? ⟨w.heap.size, 7, none⟩ = false := iq.frozen 7)
 refine bodyPost_ret (v := .agg #[.int .i64 0, .int .i64 0, .string ⟨#[]⟩, .int .i64 0, .int .i64 0, .string ⟨#[]⟩, .slice none 0 0, .slice none 0 0]) (by simp [results, Tryz.results162, go_sem, aQ, aS, aT, aU, aY, aZ, bu, bz]) rfl ⟨0, 0, ⟨#[]⟩, 0, 0, ⟨#[]⟩, none, 0, 0, none, 0, 0, rfl, ?_⟩
 have hend : R = .err (st.ref s.size) := rD.out
 rw [hend]
 exact RR.ret (L := W.heap.size) Dc.out (Il.out.trans Qp.out) (fun es l e => by cases e) hWs hlt _ _ _ _ _ _ _ _
theorem JY (s : ByteArray) (t : Tok) (r : List Tok) (hb : bH t = [40]) (hz : s.size ≤ 4000) (hO : ∀ st' : RM, st'.l.length < (t :: r).length → MS 15 .or s st') : MS 162 .az s (.at_ (t :: r)) := by
 intro g w hp hm
 have hlt := hp.lt
 have HM := qh hm
 have qf := qh hp
 obtain ⟨i, hi, hL⟩ := hp.2
 have Uy := qh hL.symm
 have hbd := jV hL
 have h0 := jy (s := s) (i := i) t r hL.symm
 obtain ⟨v, hv⟩ := ae (tb (bH t))
 obtain ⟨a, ha⟩ := ae (t.at_)
 have zx := qh (show tb ((RM.at_ (t :: r)).pk s.size).1 = v from hv)
 have jD := qh (show ((RM.at_ (t :: r)).pk s.size).2 = a from ha)
 have HAT := qh (show a = (RM.at_ (t :: r)).ref s.size from ha.symm)
 have HV := qh hv
 have vT := qh (show v.data.toList = bH t by rw [← hv, bT])
 have hvs : v.size ≤ 4001 := by rw [← hv, dm]; omega
 have hem := kM hv h0
 obtain ⟨hu0, -⟩ := jJ hv h0
 have HO := qh hO
 have HIS := qh (show (RM.at_ (t :: r)).is [40] = true from decide_eq_true hb)
 obtain ⟨R, hR⟩ := ae ((RM.at_ (t :: r)).P s.data.toList.length .az)
 have Hl := qh (show R = ((RM.at_ r).P s.data.toList.length .or).bind fun es l1 => aN s.data.toList.length [41] l1 fun l2 => .ok es l2 from hR.symm.trans (Md hb))
 rw [hR]
 clear hO hp hm hR hv ha hL hb h0
 go_enter Tryz.func162, Tryz.ntmps162
 go_upto_region 1 with (fail)
 obtain ⟨W, hW, hkW, fV, hszW, hWs, -⟩ := iV g w
 have ny := qh (show dQ W g s (.at_ (t :: r)) by rw [hW]; exact qf.out.alloc _)
 have oZ := qh (HM.out.kp hkW)
 rw [← hW]
 clear hW
 have kY := qh (kX ny.out)
 rw [zx.out, jD.out] at kY
 go_upto_region 2 with (go_at_call 17; (with_reducible refine kY.out.mono ?_); rintro e w1 ⟨rfl, hb1⟩)
 obtain ⟨W1, hW1⟩ := au (w1.alloc (.cells #[.string v, .int .i64 (a : Nat)] 48 (0, 0)))
 have hbW : Below W.heap.size W W1 := by rw [hW1]; exact hb1.alloc hb1.size _
 have BT : af W1 w1.heap.size 48 #[.string v, .int .i64 (a : Nat)] := by rw [hW1]; exact af.new w1 _ _
 have hsW : W.heap.size ≤ w1.heap.size := hb1.size
 rw [← hW1]
 clear hW1 hb1
 have mW := qh (hkW.trans (Kp.of hbW))
 have qc := qh (ny.out.below hbW)
 have eG := qh (fV.out.below hbW fV.out.lt)
 obtain ⟨kD, nz⟩ := af.c2 BT
 have lh := qh (yQ qc.out [40])
 rw [show tb [40] = ⟨#[40]⟩ from rfl, HIS.out, if_pos rfl] at lh
 have C9 : W.heap.size ≤ W1.heap.size := hbW.size
 go_wp2_with fail
 refine lh.out.mono ?_
 rintro e w2 ⟨rfl, hs2, hk2⟩
 have HS2 := qh (show dQ w2 g s (.at_ r) from hs2)
 have hsz2 := hk2.size
 have mG := qh (mW.out.trans hk2)
 have iC := qh (eG.out.kp hk2 (by omega))
 obtain ⟨r2, hr2⟩ := ae ((RM.at_ r).P s.data.toList.length .or)
 have HC2 := qh (fun W' hp hm => hr2 ▸ HO.out (.at_ r) (by show r.length < (t :: r).length; simp) g W' hp hm)
 rw [hr2] at Hl
 clear hs2 hk2 hr2 kD nz
 go_wp2_with fail
 refine (HC2.out w2 HS2.out (HM.out.kp mG.out)).mono ?_
 rintro e w3 ⟨gu, gy, gz, gG, gI, gJ, gK, gQ, gU, gV, gW, gX, rfl, hs3, hk3, hx3⟩
 have hsz3 := hk3.size
 obtain ⟨W3, hW3⟩ := au (w3.alloc (.cells #[.int .i64 gu, .int .i64 gy, .string gz, .int .i64 gG, .int .i64 gI, .string gJ, .slice gK gQ gU, .slice gV gW gX] 27 (0, 0)))
 have HS3 := qh (show dQ W3 g s (aX r2) by rw [hW3]; exact hs3.alloc _)
 have FP := qh (show Kp g w W3 by rw [hW3]; exact (mG.out.trans hk3).alloc _)
 have qO := qh (show ZB W3 w.heap.size by rw [hW3]; exact (iC.out.kp hk3 (by omega)).alloc _)
 have MO := qh (show af W3 w3.heap.size 27 #[.int .i64 gu, .int .i64 gy, .string gz, .int .i64 gG, .int .i64 gI, .string gJ, .slice gK gQ gU, .slice gV gW gX] by rw [hW3]; exact af.new w3 _ _)
 have HX3 := qh (show RX (fun b => W.heap.size ≤ b) W3 r2 [.int .i64 gu, .int .i64 gy, .string gz, .int .i64 gG, .int .i64 gI, .string gJ, .slice gK gQ gU, .slice gV gW gX] by
  rw [hW3]
  exact (hx3.imp (fun k hk _ => by omega)).keep (dG.of ((Below.refl _ _).alloc (Nat.le_refl _) _)))
 have CZ : W3.heap.size = w3.heap.size + 1 := by rw [hW3]; simp
 clear hs3 hk3 hx3
 have MP := qh (yR HS3.out [41])
 rw [show tb [41] = ⟨#[41]⟩ from rfl] at MP
 go_upto_region 6 with (fail)
 rw [← hW3]
 clear hW3
 go_wp2_with fail
 refine MP.out.mono ?_
 rintro e w4 ⟨rfl, hs4, hk4⟩
 have B4 := MO.out.kp hk4 (by omega)
 have FC := qO.out.kp hk4 (by omega)
 obtain ⟨CJ, CO, Ea, Eb, Ec, Ed, Ee, Ef⟩ := af.c8 B4
 obtain ⟨aQ, eX, aS, eY, aT, fD, aU, fE, aY, jR, aZ, jS, bu, jT, bz, jU⟩ := af.z8 FC
 go_wp2_with fail
 refine bodyPost_ret (v := .agg #[.int .i64 gu, .int .i64 gy, .string gz, .int .i64 gG, .int .i64 gI, .string gJ, .slice gK gQ gU, .slice gV gW gX]) (by simp [results, Tryz.results162, go_sem, aQ, aS, aT, aU, aY, aZ, bu, bz]) rfl ⟨gu, gy, gz, gG, gI, gJ, gK, gQ, gU, gV, gW, gX, rfl, ?_⟩
 rw [Hl.out]
 refine RR.ret (L := W.heap.size) ?_ (FP.out.trans hk4) (HX3.out.kp hk4 (fun k hk => by omega)).Oj hWs hlt _ _ _ _ _ _ _ _
 show dQ w4 g s (aX (r2.bind fun es l => aN s.data.toList.length [41] l fun l2 => .ok (id es) l2))
 rw [zU (f := id) (by decide) (by decide)]
 exact hs4
theorem FQ (s : ByteArray) (t : Tok) (r : List Tok) (hb : bH t ≠ [40]) (hc : bH t = iP ∨ bH t = dV ∨ (∃ c y, bH t = c :: y ∧ dE c = false)) (hz : s.size ≤ 4000) : MS 162 .az s (.at_ (t :: r)) := by
 intro g w hp hm
 have hlt := hp.lt
 have HM := qh hm
 have qf := qh hp
 obtain ⟨i, hi, hL⟩ := hp.2
 have Uy := qh hL.symm
 have hbd := jV hL
 have h0 := jy (s := s) (i := i) t r hL.symm
 obtain ⟨v, hv⟩ := ae (tb (bH t))
 obtain ⟨a, ha⟩ := ae (t.at_)
 have zx := qh (show tb ((RM.at_ (t :: r)).pk s.size).1 = v from hv)
 have jD := qh (show ((RM.at_ (t :: r)).pk s.size).2 = a from ha)
 have HAT := qh (show a = (RM.at_ (t :: r)).ref s.size from ha.symm)
 have HV := qh hv
 have vT := qh (show v.data.toList = bH t by rw [← hv, bT])
 have hvs : v.size ≤ 4001 := by rw [← hv, dm]; omega
 have hem := kM hv h0
 obtain ⟨hu0, -⟩ := jJ hv h0
 have HZ := qh hz
 have yX := qh (show (RM.at_ (t :: r)).is [40] = false from decide_eq_false hb)
 obtain ⟨R, hR⟩ := ae ((RM.at_ (t :: r)).P s.data.toList.length .az)
 have Hl := qh (show R = Hg (bH t) t.at_ r by
  rw [← hR]
  refine (Un hL.symm hb ?_).trans (by rfl)
  rcases hc with e | e | ⟨c, y, e, hl⟩
  ·
   exact .inl (by rw [e]; decide)
  ·
   exact .inl (by rw [e]; decide)
  ·
   cases hcb : dF (bH t) with
   | true => exact .inl rfl
   | false => exact .inr ⟨by rw [e]; show (dE c && _) = false; rw [hl]; rfl, rfl⟩)
 rw [hR]
 obtain ⟨b1, hb1⟩ := ae ((v.toList == [116, 114, 117, 101]))
 obtain ⟨b2, hb2⟩ := ae ((v.toList == [102, 97, 108, 115, 101]))
 have hlow : b1 = true ∨ b2 = true ∨ ((v[0].toNat : Nat) : Int) < 97 ∨ 122 < ((v[0].toNat : Nat) : Int) := by
  rw [← hb1, ← hb2, ByteArray.toList_eq, vT.out]
  rcases hc with e | e | ⟨c, y, e, hl⟩
  ·
   exact .inl (by rw [e]; rfl)
  ·
   exact .inr (.inl (by rw [e]; rfl))
  ·
   obtain ⟨_, h1⟩ := nS hv e
   rw [h1]
   have : ¬ (97 ≤ c.toNat ∧ c.toNat ≤ 122) := by
    intro q
    unfold dE at hl
    simp [q.1, q.2] at hl
   omega
 clear hc hp hm hR hv ha hL hb h0
 go_enter Tryz.func162, Tryz.ntmps162
 go_upto_region 1 with (fail)
 obtain ⟨W, hW, hkW, fV, hszW, hWs, -⟩ := iV g w
 have ny := qh (show dQ W g s (.at_ (t :: r)) by rw [hW]; exact qf.out.alloc _)
 have oZ := qh (HM.out.kp hkW)
 rw [← hW]
 clear hW
 have kY := qh (kX ny.out)
 rw [zx.out, jD.out] at kY
 go_upto_region 2 with (go_at_call 17; (with_reducible refine kY.out.mono ?_); rintro e w1 ⟨rfl, hb1⟩)
 obtain ⟨W1, hW1⟩ := au (w1.alloc (.cells #[.string v, .int .i64 (a : Nat)] 48 (0, 0)))
 have hbW : Below W.heap.size W W1 := by rw [hW1]; exact hb1.alloc hb1.size _
 have BT : af W1 w1.heap.size 48 #[.string v, .int .i64 (a : Nat)] := by rw [hW1]; exact af.new w1 _ _
 have hsW : W.heap.size ≤ w1.heap.size := hb1.size
 rw [← hW1]
 clear hW1 hb1
 have mW := qh (hkW.trans (Kp.of hbW))
 have qc := qh (ny.out.below hbW)
 have eG := qh (fV.out.below hbW fV.out.lt)
 obtain ⟨kD, nz⟩ := af.c2 BT
 have C9 : W.heap.size ≤ W1.heap.size := hbW.size
 have yh := qh (wH qc.out yX.out)
 rw [show tb [40] = ⟨#[40]⟩ from rfl] at yh
 go_upto_region 8 with (go_at_call 37; (with_reducible refine yh.out.mono ?_); rintro e w2 ⟨rfl, rfl⟩)
 have HC2 := qh (MJ (t := t) (r := r) qc.out (HM.out.kp mW.out) HZ.out)
 rw [← Hl.out] at HC2
 have eH := qh (show ∀ w5 gu gy gz gG gI gJ gK gQ gU gV gW gX, RR W1 g s R [.int .i64 gu, .int .i64 gy, .string gz, .int .i64 gG, .int .i64 gI, .string gJ, .slice gK gQ gU, .slice gV gW gX] w5 → RR w g s R [.int .i64 gu, .int .i64 gy, .string gz, .int .i64 gG, .int .i64 gI, .string gJ, .slice gK gQ gU, .slice gV gW gX] (dU w5 w.heap.size (.int .i64 gu) (.int .i64 gy) (.string gz) (.int .i64 gG) (.int .i64 gI) (.string gJ) (.slice gK gQ gU) (.slice gV gW gX)) from fun w5 gu gy gz gG gI gJ gK gQ gU gV gW gX ⟨hs5, hk5, hx5⟩ => RR.ret (L := W.heap.size) hs5 (mW.out.trans hk5) (hx5.imp (fun k hk _ => by omega)) hWs hlt _ _ _ _ _ _ _ _)
 cases b1
 ·
  cases b2
  ·
   by_cases l1 : ((v[0].toNat : Nat) : Int) < 97
   ·
    have d1 : decide (((v[0].toNat : Nat) : Int) < 97) = true := by simpa using l1
    go_wp2_with fail
    refine HC2.out.mono ?_
    rintro e w5 ⟨gu, gy, gz, gG, gI, gJ, gK, gQ, gU, gV, gW, gX, rfl, Ij⟩
    have wE := eG.out.kp Ij.2.1 (by omega)
    obtain ⟨aQ, eX, aS, eY, aT, fD, aU, fE, aY, jR, aZ, jS, bu, jT, bz, jU⟩ := af.z8 wE
    have YQ := qh Ij
    clear Ij
    go_wp2_with fail
    refine bodyPost_ret (v := .agg #[.int .i64 gu, .int .i64 gy, .string gz, .int .i64 gG, .int .i64 gI, .string gJ, .slice gK gQ gU, .slice gV gW gX]) (by simp [results, Tryz.results162, go_sem, aQ, aS, aT, aU, aY, aZ, bu, bz]) rfl ⟨gu, gy, gz, gG, gI, gJ, gK, gQ, gU, gV, gW, gX, rfl, ?_⟩
    exact eH.out w5 gu gy gz gG gI gJ gK gQ gU gV gW gX YQ.out
   ·
    have d1 : decide (((v[0].toNat : Nat) : Int) < 97) = false := by simpa using l1
    have l2 : 122 < ((v[0].toNat : Nat) : Int) := by rcases hlow with h | h | h | h; cases h; cases h; exact absurd h l1; exact h
    have d2 : decide (122 < ((v[0].toNat : Nat) : Int)) = true := by simpa using l2
    go_wp2_with fail
    refine HC2.out.mono ?_
    rintro e w5 ⟨gu, gy, gz, gG, gI, gJ, gK, gQ, gU, gV, gW, gX, rfl, Ij⟩
    have wE := eG.out.kp Ij.2.1 (by omega)
    obtain ⟨aQ, eX, aS, eY, aT, fD, aU, fE, aY, jR, aZ, jS, bu, jT, bz, jU⟩ := af.z8 wE
    have YQ := qh Ij
    clear Ij
    go_wp2_with fail
    refine bodyPost_ret (v := .agg #[.int .i64 gu, .int .i64 gy, .string gz, .int .i64 gG, .int .i64 gI, .string gJ, .slice gK gQ gU, .slice gV gW gX]) (by simp [results, Tryz.results162, go_sem, aQ, aS, aT, aU, aY, aZ, bu, bz]) rfl ⟨gu, gy, gz, gG, gI, gJ, gK, gQ, gU, gV, gW, gX, rfl, ?_⟩
    exact eH.out w5 gu gy gz gG gI gJ gK gQ gU gV gW gX YQ.out
  ·
   clear hlow
   go_wp2_with fail
   refine HC2.out.mono ?_
   rintro e w5 ⟨gu, gy, gz, gG, gI, gJ, gK, gQ, gU, gV, gW, gX, rfl, Ij⟩
   have wE := eG.out.kp Ij.2.1 (by omega)
   obtain ⟨aQ, eX, aS, eY, aT, fD, aU, fE, aY, jR, aZ, jS, bu, jT, bz, jU⟩ := af.z8 wE
   have YQ := qh Ij
   clear Ij
   go_wp2_with fail
   refine bodyPost_ret (v := .agg #[.int .i64 gu, .int .i64 gy, .string gz, .int .i64 gG, .int .i64 gI, .string gJ, .slice gK gQ gU, .slice gV gW gX]) (by simp [results, Tryz.results162, go_sem, aQ, aS, aT, aU, aY, aZ, bu, bz]) rfl ⟨gu, gy, gz, gG, gI, gJ, gK, gQ, gU, gV, gW, gX, rfl, ?_⟩
   exact eH.out w5 gu gy gz gG gI gJ gK gQ gU gV gW gX YQ.out
 ·
  clear hlow
  go_wp2_with fail
  refine HC2.out.mono ?_
  rintro e w5 ⟨gu, gy, gz, gG, gI, gJ, gK, gQ, gU, gV, gW, gX, rfl, Ij⟩
  have wE := eG.out.kp Ij.2.1 (by omega)
  obtain ⟨aQ, eX, aS, eY, aT, fD, aU, fE, aY, jR, aZ, jS, bu, jT, bz, jU⟩ := af.z8 wE
  have YQ := qh Ij
  clear Ij
  go_wp2_with fail
  refine bodyPost_ret (v := .agg #[.int .i64 gu, .int .i64 gy, .string gz, .int .i64 gG, .int .i64 gI, .string gJ, .slice gK gQ gU, .slice gV gW gX]) (by simp [results, Tryz.results162, go_sem, aQ, aS, aT, aU, aY, aZ, bu, bz]) rfl ⟨gu, gy, gz, gG, gI, gJ, gK, gQ, gU, gV, gW, gX, rfl, ?_⟩
  exact eH.out w5 gu gy gz gG gI gJ gK gQ gU gV gW gX YQ.out
theorem Dh (s : ByteArray) (t : Tok) (r : List Tok) (hlo : ∃ c y, bH t = c :: y ∧ dE c = true) (htf : bH t ≠ iP ∧ bH t ≠ dV) (hres : aB.contains (bH t) = true) (hz : s.size ≤ 4000) : MS 162 .az s (.at_ (t :: r)) := by
 intro g w hp hm
 have hlt := hp.lt
 have HM := qh hm
 have qf := qh hp
 obtain ⟨i, hi, hL⟩ := hp.2
 have Uy := qh hL.symm
 have hbd := jV hL
 have h0 := jy (s := s) (i := i) t r hL.symm
 obtain ⟨v, hv⟩ := ae (tb (bH t))
 obtain ⟨a, ha⟩ := ae (t.at_)
 have zx := qh (show tb ((RM.at_ (t :: r)).pk s.size).1 = v from hv)
 have jD := qh (show ((RM.at_ (t :: r)).pk s.size).2 = a from ha)
 have HAT := qh (show a = (RM.at_ (t :: r)).ref s.size from ha.symm)
 have HV := qh hv
 have vT := qh (show v.data.toList = bH t by rw [← hv, bT])
 have hvs : v.size ≤ 4001 := by rw [← hv, dm]; omega
 have hem := kM hv h0
 obtain ⟨hu0, -⟩ := jJ hv h0
 have GM := qh hlo
 have wU := qh htf
 have hb : bH t ≠ [40] := by
  obtain ⟨c, y, e, hl⟩ := hlo
  intro e2
  rw [e] at e2
  injection e2 with e3 _
  rw [e3] at hl
  exact absurd hl (by decide)
 have h63 : bH t ≠ [63] := by
  obtain ⟨c, y, e, hl⟩ := hlo
  intro e2
  rw [e] at e2
  injection e2 with e3 _
  rw [e3] at hl
  exact absurd hl (by decide)
 have yX := qh (show (RM.at_ (t :: r)).is [40] = false from decide_eq_false hb)
 obtain ⟨R, hR⟩ := ae ((RM.at_ (t :: r)).P s.data.toList.length .az)
 have rD := qh (show R = .err a by
  rw [← hR, ← ha]
  refine Me hb ?_ ?_ h63
  ·
   obtain ⟨c, y, e, hl⟩ := hlo
   have hc3 : 97 ≤ c.toNat ∧ c.toNat ≤ 122 := by
    have := hl
    unfold dE at this
    simpa using this
   have hd : ∀ d : UInt8, d.toNat < 97 ∨ 122 < d.toNat → c ≠ d := fun d hd e => by rw [e] at hc3; omega
   rw [e] at htf ⊢
   unfold dF
   show (bI c || decide (c = 64) || decide (c = 35) || decide (c = 39) || decide (c = 123) || decide (c :: y = iP) || decide (c :: y = dV)) = false
   rw [decide_eq_false (hd 64 (by decide)), decide_eq_false (hd 35 (by decide)), decide_eq_false (hd 39 (by decide)), decide_eq_false (hd 123 (by decide)), decide_eq_false htf.1, decide_eq_false htf.2]
   have h4 : bI c = false := by unfold bI; simp; omega
   rw [h4]
   rfl
  ·
   obtain ⟨c, y, e, hl⟩ := hlo
   rw [e] at hres ⊢
   show (dE c && !aB.contains (c :: y)) = false
   rw [hres, hl]
   rfl)
 have G6 : v.data.toList = bH t := vT.out
 have qN := qh (fun W hW => jk v W hW)
 rw [G6, hres] at qN
 rw [hR]
 have hn0 := mF GM.out
 obtain ⟨c0, y0, hcy, hlc⟩ := hn0
 have uX := nS hv hcy
 obtain ⟨_, uX⟩ := uX
 have Di : ¬ ((v[0].toNat : Nat) : Int) < 97 := by rw [uX]; have := hlc; unfold dE at this; simp at this; omega
 have uY : ¬ 122 < ((v[0].toNat : Nat) : Int) := by rw [uX]; have := hlc; unfold dE at this; simp at this; omega
 have d1 : decide (((v[0].toNat : Nat) : Int) < 97) = false := by simpa using Di
 have d2 : decide (122 < ((v[0].toNat : Nat) : Int)) = false := by simpa using uY
 have b1 : (v.toList == [116, 114, 117, 101]) = false := by rw [ByteArray.toList_eq, vT.out, beq_eq_false_iff_ne]; exact wU.out.1
 have b2 : (v.toList == [102, 97, 108, 115, 101]) = false := by rw [ByteArray.toList_eq, vT.out, beq_eq_false_iff_ne]; exact wU.out.2
 clear hcy hlc uX
 clear hlo htf hres hp hm hR hv ha hL hb h63 h0
 go_enter Tryz.func162, Tryz.ntmps162
 go_upto_region 1 with (fail)
 obtain ⟨W, hW, hkW, fV, hszW, hWs, -⟩ := iV g w
 have ny := qh (show dQ W g s (.at_ (t :: r)) by rw [hW]; exact qf.out.alloc _)
 have oZ := qh (HM.out.kp hkW)
 rw [← hW]
 clear hW
 have kY := qh (kX ny.out)
 rw [zx.out, jD.out] at kY
 go_upto_region 2 with (go_at_call 17; (with_reducible refine kY.out.mono ?_); rintro e w1 ⟨rfl, hb1⟩)
 obtain ⟨W1, hW1⟩ := au (w1.alloc (.cells #[.string v, .int .i64 (a : Nat)] 48 (0, 0)))
 have hbW : Below W.heap.size W W1 := by rw [hW1]; exact hb1.alloc hb1.size _
 have BT : af W1 w1.heap.size 48 #[.string v, .int .i64 (a : Nat)] := by rw [hW1]; exact af.new w1 _ _
 have hsW : W.heap.size ≤ w1.heap.size := hb1.size
 rw [← hW1]
 clear hW1 hb1
 have mW := qh (hkW.trans (Kp.of hbW))
 have qc := qh (ny.out.below hbW)
 have eG := qh (fV.out.below hbW fV.out.lt)
 obtain ⟨kD, nz⟩ := af.c2 BT
 have C9 : W.heap.size ≤ W1.heap.size := hbW.size
 have yh := qh (wH qc.out yX.out)
 rw [show tb [40] = ⟨#[40]⟩ from rfl] at yh
 go_upto_region 8 with (go_at_call 37; (with_reducible refine yh.out.mono ?_); rintro e w2 ⟨rfl, rfl⟩)
 have Dj := qh (HM.out.kp mW.out).all.2.2.2
 go_wp2_with fail
 refine (qN.out W1 Dj.out).mono ?_
 rintro e w2 ⟨rfl, hb2⟩
 have JV := qh (qc.out.below hb2)
 have Il := qh (mW.out.trans (Kp.of hb2))
 have qi := qh (eG.out.below hb2 eG.out.lt)
 have XT := BT.below hb2 BT.lt
 have hsz2 := hb2.size
 clear kD nz
 obtain ⟨kD, nz⟩ := af.c2 XT
 have wG := qh (nO JV.out v)
 rw [jD.out] at wG
 go_wp2_with (go_at_call 16; (with_reducible refine wG.out.mono ?_); rintro e w9 ⟨rfl, hs9, hk9⟩; have iq := qi.out.kp hk9 (by omega); have Dc := qh hs9; have Qp := qh hk9; clear hs9 hk9; have aQ : w9.cell? ⟨w.heap.size, 0, none⟩ = some (.int .i64 0) := iq.cell 0; have eX : w9.frozen? ⟨w.heap.size, 0, none⟩ = false := iq.frozen 0; have aS : w9.cell? ⟨w.heap.size, 1, none⟩ = some (.int .i64 0) := iq.cell 1; have eY : w9.frozen? ⟨w.heap.size, 1, none⟩ = false := iq.frozen 1; have aT : w9.cell? ⟨w.heap.size, 2, none⟩ = some (.string ⟨#[]⟩) := iq.cell 2; have fD : w9.frozen? ⟨w.heap.size, 2, none⟩ = false := iq.frozen 2; have aU : w9.cell? ⟨w.heap.size, 3, none⟩ = some (.int .i64 0) := iq.cell 3; have fE : w9.frozen? ⟨w.heap.size, 3, none⟩ = false := iq.frozen 3; have aY : w9.cell? ⟨w.heap.size, 4, none⟩ = some (.int .i64 0) := iq.cell 4; have jR : w9.frozen? ⟨w.heap.size, 4, none⟩ = false := iq.frozen 4; have aZ : w9.cell? ⟨w.heap.size, 5, none⟩ = some (.string ⟨#[]⟩) := iq.cell 5; have jS : w9.frozen? ⟨w.heap.size, 5, none⟩ = false := iq.frozen 5; have bu : w9.cell? ⟨w.heap.size, 6, none⟩ = some (.slice none 0 0) := iq.cell 6; have jT : w9.frozen? ⟨w.heap.size, 6, none⟩ = false := iq.frozen 6; have bz : w9.cell? ⟨w.heap.size, 7, none⟩ = some (.slice none 0 0) := iq.cell 7; have jU : w9.frozen? ⟨w.heap.size, 7, none⟩ = false := iq.frozen 7)
 refine bodyPost_ret (v := .agg #[.int .i64 0, .int .i64 0, .string ⟨#[]⟩, .int .i64 0, .int .i64 0, .string ⟨#[]⟩, .slice none 0 0, .slice none 0 0]) (by simp [results, Tryz.results162, go_sem, aQ, aS, aT, aU, aY, aZ, bu, bz]) rfl ⟨0, 0, ⟨#[]⟩, 0, 0, ⟨#[]⟩, none, 0, 0, none, 0, 0, rfl, ?_⟩
 have hend : R = .err ((RM.at_ (t :: r)).ref s.size) := rD.out.trans (by rw [HAT.out])
 rw [hend]
 exact RR.ret (L := W.heap.size) Dc.out (Il.out.trans Qp.out) (fun es l e => by cases e) hWs hlt _ _ _ _ _ _ _ _
end Go.Proofs.YtobanldeicclmaaGreatDoor
