/- Lemmas for the claim: walks and plain laws. -/
import Derived.Test.YtobanldeicclmaaGreatDoorZ29
set_option maxHeartbeats 8000000
set_option maxRecDepth 100000
namespace Go.Proofs.YtobanldeicclmaaGreatDoor
open Go.RowKit Vtx
attribute [local go_sem ↓] Go.wp_at_zero Go.wp_at_succ
theorem J7 (s : ByteArray) (t : Tok) (r : List Tok) (hn : nameB (bH t) = true) (hcl : (RM.at_ (t :: r)).cl = false) (hz : s.size ≤ 4000) : MS 162 .az s (.at_ (t :: r)) := by
 intro g w hp hm
 have hlt := hp.lt
 have HM := qh hm
 have qf := qh hp
 obtain ⟨i, hi, hL⟩ := hp.2
 have Uy := qh hL.symm
 have hbd := jV hL
 have h0 := jy (s := s) (i := i) t r hL.symm
 obtain ⟨v, hv⟩ := ae (tb (bH t))
 obtain ⟨a, ha⟩ := ae (t.at_)
 have zx := qh (show tb ((RM.at_ (t :: r)).pk s.size).1 = v from hv)
 have jD := qh (show ((RM.at_ (t :: r)).pk s.size).2 = a from ha)
 have HAT := qh (show a = (RM.at_ (t :: r)).ref s.size from ha.symm)
 have HV := qh hv
 have vT := qh (show v.data.toList = bH t by rw [← hv, bT])
 have hvs : v.size ≤ 4001 := by rw [← hv, dm]; omega
 have hem := kM hv h0
 obtain ⟨hu0, -⟩ := jJ hv h0
 have hnf := lN hn
 have hmo := rJ hn
 have GM := qh hnf.2.2.2
 have wU := qh hmo.2
 have YF := qh hn
 have hb : bH t ≠ [40] := hnf.2.1
 have yX := qh (show (RM.at_ (t :: r)).is [40] = false from decide_eq_false hb)
 have G6 : v.data.toList = bH t := vT.out
 have qN := qh (fun W hW => jk v W hW)
 rw [G6, hmo.1] at qN
 have HZ := qh hz
 obtain ⟨R, hR⟩ := ae ((RM.at_ (t :: r)).P s.data.toList.length .az)
 have Xe := qh (nP (t := t) rfl hnf.1)
 rw [hR]
 have Hl := qh (show R = .ok [bP 2 0 (bH t) []] r from hR.symm.trans (FI hn (by rw [← rG hL.symm Xe.out.1, hcl]; exact .inl rfl)))
 have Hq := qh hcl
 have vX := qh (show (RM.at_ (t :: r)).nm.getD [] = bH t ∧ (RM.at_ (t :: r)).CX s.size = .at_ r by
  have h1 : (RM.at_ (t :: r)).nm = some (bH t) := by
   show nameAt (t :: r) = some (bH t)
   rw [sW, hn, if_pos rfl]
  refine ⟨by rw [h1]; rfl, ?_⟩
  unfold RM.CX
  rw [h1]
  rfl)
 have hn0 := mF GM.out
 obtain ⟨c0, y0, hcy, hlc⟩ := hn0
 have uX := nS hv hcy
 obtain ⟨_, uX⟩ := uX
 have Di : ¬ ((v[0].toNat : Nat) : Int) < 97 := by rw [uX]; have := hlc; unfold dE at this; simp at this; omega
 have uY : ¬ 122 < ((v[0].toNat : Nat) : Int) := by rw [uX]; have := hlc; unfold dE at this; simp at this; omega
 have d1 : decide (((v[0].toNat : Nat) : Int) < 97) = false := by simpa using Di
 have d2 : decide (122 < ((v[0].toNat : Nat) : Int)) = false := by simpa using uY
 have b1 : (v.toList == [116, 114, 117, 101]) = false := by rw [ByteArray.toList_eq, vT.out, beq_eq_false_iff_ne]; exact wU.out.1
 have b2 : (v.toList == [102, 97, 108, 115, 101]) = false := by rw [ByteArray.toList_eq, vT.out, beq_eq_false_iff_ne]; exact wU.out.2
 clear hcy hlc uX
 clear hp hm hR hv ha hL hb h0 hnf hmo hn G6 hz hcl
 go_enter Tryz.func162, Tryz.ntmps162
 go_upto_region 1 with (fail)
 obtain ⟨W, hW, hkW, fV, hszW, hWs, -⟩ := iV g w
 have ny := qh (show dQ W g s (.at_ (t :: r)) by rw [hW]; exact qf.out.alloc _)
 have oZ := qh (HM.out.kp hkW)
 rw [← hW]
 clear hW
 have kY := qh (kX ny.out)
 rw [zx.out, jD.out] at kY
 go_upto_region 2 with (go_at_call 17; (with_reducible refine kY.out.mono ?_); rintro e w1 ⟨rfl, hb1⟩)
 obtain ⟨W1, hW1⟩ := au (w1.alloc (.cells #[.string v, .int .i64 (a : Nat)] 48 (0, 0)))
 have hbW : Below W.heap.size W W1 := by rw [hW1]; exact hb1.alloc hb1.size _
 have BT : af W1 w1.heap.size 48 #[.string v, .int .i64 (a : Nat)] := by rw [hW1]; exact af.new w1 _ _
 have hsW : W.heap.size ≤ w1.heap.size := hb1.size
 rw [← hW1]
 clear hW1 hb1
 have mW := qh (hkW.trans (Kp.of hbW))
 have qc := qh (ny.out.below hbW)
 have eG := qh (fV.out.below hbW fV.out.lt)
 obtain ⟨kD, nz⟩ := af.c2 BT
 have C9 : W.heap.size ≤ W1.heap.size := hbW.size
 have yh := qh (wH qc.out yX.out)
 rw [show tb [40] = ⟨#[40]⟩ from rfl] at yh
 go_upto_region 8 with (go_at_call 37; (with_reducible refine yh.out.mono ?_); rintro e w2 ⟨rfl, rfl⟩)
 have Dj := qh (HM.out.kp mW.out).all.2.2.2
 go_wp2_with fail
 refine (qN.out W1 Dj.out).mono ?_
 rintro e w2 ⟨rfl, hb2⟩
 have HS2 := qh (qc.out.below hb2)
 have mG := qh (mW.out.trans (Kp.of hb2))
 have iC := qh (eG.out.below hb2 eG.out.lt)
 have qj := qh (BT.below hb2 BT.lt)
 have hsz2 := hb2.size
 clear kD nz BT
 obtain ⟨kD, nz⟩ := af.c2 qj.out
 have Ej := qh (fun W' (hb' : Below w2.heap.size w2 W') => oC (HS2.out.below hb') HZ.out)
 rw [Hq.out] at Ej
 go_upto_region 17 with (go_at_call 175; (with_reducible refine (Ej.out w2 (Below.refl _ _)).mono ?_); rintro e w4 ⟨rfl, hb4⟩; have HB4 := qh hb4; have YY : w4.cell? ⟨w1.heap.size, 0, none⟩ = some (.string v) := Below.cell_of hb4 kD; clear hb4)
 have hb4 := HB4.out
 have pX := qh (HS2.out.below hb4)
 have iK := qh (mG.out.trans (Kp.of hb4))
 have dL := qh (iC.out.below hb4 iC.out.lt)
 have xA := qh (qj.out.below hb4 qj.out.lt)
 have vW := hb4.size
 have MQ := qh (HM.out.kp iK.out).all.2.2.2
 have Dv := qh (fun W' (hb' : Below w4.heap.size w4 W') => Ej.out W' (hb4.trans (hb'.mono hb4.size)))
 clear kD nz YY hb4
 obtain ⟨kD, nz⟩ := af.c2 xA.out
 go_upto_region 17 with (fail)
 go_cut [76] (fun v wc => v = .bool false ∧ Below w4.heap.size w4 wc)
 case first =>
  refine wp_region_any (by kernel_rfl) ?_
  change wpAny _ _ _ _ _ _ _ (World.drew _)
  refine wpAny_take (i := 0) (v := ?v7) rfl (by kernel_rfl) (by kernel_rfl) (by kernel_rfl) (fun _ _ _ h => h) (Or.inl ⟨by rfl, ?y7⟩) ?r7
  case y7 =>
   intro w
   go_simp
   all_goals with_reducible rfl
  refine ag (i := 1) (by kernel_rfl) rfl (fun K hK => ?_)
  go_simp
  go_wp2_with fail
  refine (Dv.out _ (Below.refl _ _).drew).mono ?_
  rintro e x1 ⟨rfl, hx1⟩
  have hy1 : Below w4.heap.size w4 x1 := ((Below.refl _ w4).drew).trans hx1
  have Hr := qh (bD MQ.out hy1)
  have Fp : x1.cell? ⟨w1.heap.size, 0, none⟩ = some (.string v) := Below.cell_of hy1 kD
  go_wp2_with fail
  refine wpAny_take (i := 2) (v := ?v8) rfl (by kernel_rfl) (by kernel_rfl) (by kernel_rfl) (fun _ _ _ h => h) (Or.inl ⟨by rfl, ?y8⟩) ?r8
  case y8 =>
   intro w
   go_simp
   all_goals with_reducible rfl
  refine wpAny_take (i := 3) (v := undef) rfl (by kernel_rfl) (by kernel_rfl) (by kernel_rfl) (fun _ _ _ h => h) (Or.inr ⟨by rfl, rfl⟩) ?r9
  refine wpAny_take (i := 4) (v := undef) rfl (by kernel_rfl) (by kernel_rfl) (by kernel_rfl) (fun _ _ _ h => h) (Or.inr ⟨by rfl, rfl⟩) ?r10
  refine wpAny_take (i := 5) (v := undef) rfl (by kernel_rfl) (by kernel_rfl) (by kernel_rfl) (fun _ _ _ h => h) (Or.inr ⟨by rfl, rfl⟩) ?r11
  refine wpAny_take (i := 6) (v := undef) rfl (by kernel_rfl) (by kernel_rfl) (by kernel_rfl) (fun _ _ _ h => h) (Or.inr ⟨by rfl, rfl⟩) ?r12
  refine wpAny_take (i := 7) (v := ?v13) rfl (by kernel_rfl) (by kernel_rfl) (by kernel_rfl) (fun _ _ _ h => h) (Or.inl ⟨by rfl, ?y13⟩) ?r13
  case y13 =>
   intro w
   go_simp
   all_goals with_reducible rfl
  refine wpAny_take (i := 8) (v := ?v14) rfl (by kernel_rfl) (by kernel_rfl) (by kernel_rfl) (fun _ _ _ h => h) (Or.inl ⟨by rfl, ?y14⟩) ?r14
  case y14 =>
   intro w
   go_simp
   all_goals with_reducible rfl
  refine wpAny_done (by kernel_rfl) ?_ _
  try go_wp2_with fail
  go_meet
  exact ⟨by rfl, hy1⟩
 case rest =>
 obtain ⟨rfl, hb5⟩ := hcut
 have Eh := qh (pX.out.below hb5)
 have rq := qh (iK.out.trans (Kp.of hb5))
 have oP := qh (dL.out.below hb5 dL.out.lt)
 have Es := qh (xA.out.below hb5 xA.out.lt)
 have hsz5 := hb5.size
 have UM := qh (HM.out.kp rq.out).all.2.2.2
 have QC := qh (fun W' (hb' : Below wc.heap.size wc W') => Dv.out W' (hb5.trans (hb'.mono hb5.size)))
 clear kD nz hb5
 obtain ⟨kD, nz⟩ := af.c2 Es.out
 have UN := QC
 go_upto_region 27 with (go_at_call 175; (with_reducible refine (UN.out wc (Below.refl _ _)).mono ?_); rintro e w7 ⟨rfl, hb6⟩; have BL := qh hb6; clear hb6)
 have GZ := qh (Eh.out.below BL.out)
 have Vw := qh (rq.out.trans (Kp.of BL.out))
 have MV := qh (oP.out.below BL.out oP.out.lt)
 have Xf := BL.out.size
 have NM := qh (iJ GZ.out (HM.out.kp Vw.out).all.2.2.2)
 rw [vX.out.1, vX.out.2, HV.out] at NM
 clear kD nz
 go_wp2_with fail
 refine NM.out.mono ?_
 rintro e w8 ⟨rfl, hs8, hk8⟩
 have Xc := qh hs8
 have Ip := qh hk8
 have uo := MV.out.kp hk8 (by omega)
 clear hs8 hk8
 obtain ⟨aQ, eX, aS, eY, aT, fD, aU, fE, aY, jR, aZ, jS, bu, jT, bz, jU⟩ := af.z8 uo
 go_wp2_with fail
 refine bodyPost_ret (v := .agg #[.int .i64 2, .int .i64 0, .string v, .int .i64 0, .int .i64 0, .string ⟨#[]⟩, .slice none 0 0, .slice none 0 0]) (by simp [results, Tryz.results162, go_sem, aQ, aS, aT, aU, aY, aZ, bu, bz]) rfl ⟨2, 0, v, 0, 0, ⟨#[]⟩, none, 0, 0, none, 0, 0, rfl, ?_⟩
 rw [Hl.out]
 refine RR.ret (L := W.heap.size) Xc.out (Vw.out.trans Ip.out) (fun es l e => ?_) hWs hlt _ _ _ _ _ _ _ _
 injection e with e1 e2
 refine ⟨_, e1.symm, ?_⟩
 have hx := Ho (w := w8) (p := fun b => W.heap.size ≤ b) 2 0 (bH t) (by have h1 := dm (bH t); rw [HV.out] at h1; unfold maxLen; omega)
 rw [HV.out] at hx
 exact hx
theorem J8 (s : ByteArray) (t : Tok) (r : List Tok) (hn : nameB (bH t) = true) (hcl : (RM.at_ (t :: r)).cl = true) (hov : cZ (bH t) = 0) (hop : gm (bH t) = 0) (hrw : bH t ≠ pI) (hz : s.size ≤ 4000) : MS 162 .az s (.at_ (t :: r)) := by
 intro g w hp hm
 have hlt := hp.lt
 have HM := qh hm
 have qf := qh hp
 obtain ⟨i, hi, hL⟩ := hp.2
 have Uy := qh hL.symm
 have hbd := jV hL
 have h0 := jy (s := s) (i := i) t r hL.symm
 obtain ⟨v, hv⟩ := ae (tb (bH t))
 obtain ⟨a, ha⟩ := ae (t.at_)
 have zx := qh (show tb ((RM.at_ (t :: r)).pk s.size).1 = v from hv)
 have jD := qh (show ((RM.at_ (t :: r)).pk s.size).2 = a from ha)
 have HAT := qh (show a = (RM.at_ (t :: r)).ref s.size from ha.symm)
 have HV := qh hv
 have vT := qh (show v.data.toList = bH t by rw [← hv, bT])
 have hvs : v.size ≤ 4001 := by rw [← hv, dm]; omega
 have hem := kM hv h0
 obtain ⟨hu0, -⟩ := jJ hv h0
 have hnf := lN hn
 have hmo := rJ hn
 have GM := qh hnf.2.2.2
 have wU := qh hmo.2
 have YF := qh hn
 have hb : bH t ≠ [40] := hnf.2.1
 have yX := qh (show (RM.at_ (t :: r)).is [40] = false from decide_eq_false hb)
 have G6 : v.data.toList = bH t := vT.out
 have qN := qh (fun W hW => jk v W hW)
 rw [G6, hmo.1] at qN
 have HZ := qh hz
 obtain ⟨R, hR⟩ := ae ((RM.at_ (t :: r)).P s.data.toList.length .az)
 have Xe := qh (nP (t := t) rfl hnf.1)
 rw [hR]
 have Hl := qh (show R = .ok [bP 2 0 (bH t) []] r from hR.symm.trans (FI hn (by rw [← rG hL.symm Xe.out.1, hcl]; exact .inr ⟨hov, hop, hrw⟩)))
 have Hq := qh hcl
 have vX := qh (show (RM.at_ (t :: r)).nm.getD [] = bH t ∧ (RM.at_ (t :: r)).CX s.size = .at_ r by
  have h1 : (RM.at_ (t :: r)).nm = some (bH t) := by
   show nameAt (t :: r) = some (bH t)
   rw [sW, hn, if_pos rfl]
  refine ⟨by rw [h1]; rfl, ?_⟩
  unfold RM.CX
  rw [h1]
  rfl)
 have YX : (v.toList == [114, 111, 119]) = false := by rw [ByteArray.toList_eq, vT.out, beq_eq_false_iff_ne]; exact hrw
 have hcon : Lib.containsS (mD bY) v = false := by
  rw [← hv]
  exact (G5 (bH t)).trans (by rw [hov]; rfl)
 have UO := qh (fun b c W => qM bY (bH t) b c W (by decide))
 rw [hv, hcon] at UO
 have ZK := qh (fun W hW => JH (bH t) W hW)
 rw [hv, hop] at ZK
 have hn0 := mF GM.out
 obtain ⟨c0, y0, hcy, hlc⟩ := hn0
 have uX := nS hv hcy
 obtain ⟨_, uX⟩ := uX
 have Di : ¬ ((v[0].toNat : Nat) : Int) < 97 := by rw [uX]; have := hlc; unfold dE at this; simp at this; omega
 have uY : ¬ 122 < ((v[0].toNat : Nat) : Int) := by rw [uX]; have := hlc; unfold dE at this; simp at this; omega
 have d1 : decide (((v[0].toNat : Nat) : Int) < 97) = false := by simpa using Di
 have d2 : decide (122 < ((v[0].toNat : Nat) : Int)) = false := by simpa using uY
 have b1 : (v.toList == [116, 114, 117, 101]) = false := by rw [ByteArray.toList_eq, vT.out, beq_eq_false_iff_ne]; exact wU.out.1
 have b2 : (v.toList == [102, 97, 108, 115, 101]) = false := by rw [ByteArray.toList_eq, vT.out, beq_eq_false_iff_ne]; exact wU.out.2
 clear hcy hlc uX
 clear hp hm hR hv ha hL hb h0 hnf hmo hn G6 hz hcl hov hop hrw hcon
 go_enter Tryz.func162, Tryz.ntmps162
 go_upto_region 1 with (fail)
 obtain ⟨W, hW, hkW, fV, hszW, hWs, -⟩ := iV g w
 have ny := qh (show dQ W g s (.at_ (t :: r)) by rw [hW]; exact qf.out.alloc _)
 have oZ := qh (HM.out.kp hkW)
 rw [← hW]
 clear hW
 have kY := qh (kX ny.out)
 rw [zx.out, jD.out] at kY
 go_upto_region 2 with (go_at_call 17; (with_reducible refine kY.out.mono ?_); rintro e w1 ⟨rfl, hb1⟩)
 obtain ⟨W1, hW1⟩ := au (w1.alloc (.cells #[.string v, .int .i64 (a : Nat)] 48 (0, 0)))
 have hbW : Below W.heap.size W W1 := by rw [hW1]; exact hb1.alloc hb1.size _
 have BT : af W1 w1.heap.size 48 #[.string v, .int .i64 (a : Nat)] := by rw [hW1]; exact af.new w1 _ _
 have hsW : W.heap.size ≤ w1.heap.size := hb1.size
 rw [← hW1]
 clear hW1 hb1
 have mW := qh (hkW.trans (Kp.of hbW))
 have qc := qh (ny.out.below hbW)
 have eG := qh (fV.out.below hbW fV.out.lt)
 obtain ⟨kD, nz⟩ := af.c2 BT
 have C9 : W.heap.size ≤ W1.heap.size := hbW.size
 have yh := qh (wH qc.out yX.out)
 rw [show tb [40] = ⟨#[40]⟩ from rfl] at yh
 go_upto_region 8 with (go_at_call 37; (with_reducible refine yh.out.mono ?_); rintro e w2 ⟨rfl, rfl⟩)
 have Dj := qh (HM.out.kp mW.out).all.2.2.2
 go_wp2_with fail
 refine (qN.out W1 Dj.out).mono ?_
 rintro e w2 ⟨rfl, hb2⟩
 have HS2 := qh (qc.out.below hb2)
 have mG := qh (mW.out.trans (Kp.of hb2))
 have iC := qh (eG.out.below hb2 eG.out.lt)
 have qj := qh (BT.below hb2 BT.lt)
 have hsz2 := hb2.size
 clear kD nz BT
 obtain ⟨kD, nz⟩ := af.c2 qj.out
 have Ej := qh (fun W' (hb' : Below w2.heap.size w2 W') => oC (HS2.out.below hb') HZ.out)
 rw [Hq.out] at Ej
 go_upto_region 17 with (go_at_call 175; (with_reducible refine (Ej.out w2 (Below.refl _ _)).mono ?_); rintro e w4 ⟨rfl, hb4⟩; have HB4 := qh hb4; have YY : w4.cell? ⟨w1.heap.size, 0, none⟩ = some (.string v) := Below.cell_of hb4 kD; clear hb4)
 have hb4 := HB4.out
 have pX := qh (HS2.out.below hb4)
 have iK := qh (mG.out.trans (Kp.of hb4))
 have dL := qh (iC.out.below hb4 iC.out.lt)
 have xA := qh (qj.out.below hb4 qj.out.lt)
 have vW := hb4.size
 have MQ := qh (HM.out.kp iK.out).all.2.2.2
 have Dv := qh (fun W' (hb' : Below w4.heap.size w4 W') => Ej.out W' (hb4.trans (hb'.mono hb4.size)))
 clear kD nz YY hb4
 obtain ⟨kD, nz⟩ := af.c2 xA.out
 go_upto_region 17 with (fail)
 go_cut [76] (fun v wc => v = .bool false ∧ Below w4.heap.size w4 wc)
 case first =>
  refine wp_region_any (by kernel_rfl) ?_
  change wpAny _ _ _ _ _ _ _ (World.drew _)
  refine wpAny_take (i := 0) (v := ?v15) rfl (by kernel_rfl) (by kernel_rfl) (by kernel_rfl) (fun _ _ _ h => h) (Or.inl ⟨by rfl, ?y15⟩) ?r15
  case y15 =>
   intro w
   go_simp
   all_goals with_reducible rfl
  refine ag (i := 1) (by kernel_rfl) rfl (fun K hK => ?_)
  go_simp
  go_wp2_with fail
  refine (Dv.out _ (Below.refl _ _).drew).mono ?_
  rintro e x1 ⟨rfl, hx1⟩
  have hy1 : Below w4.heap.size w4 x1 := ((Below.refl _ w4).drew).trans hx1
  have Hr := qh (bD MQ.out hy1)
  have Fp : x1.cell? ⟨w1.heap.size, 0, none⟩ = some (.string v) := Below.cell_of hy1 kD
  go_wp2_with fail
  refine wpAny_take (i := 2) (v := ?v16) rfl (by kernel_rfl) (by kernel_rfl) (by kernel_rfl) (fun _ _ _ h => h) (Or.inl ⟨by rfl, ?y16⟩) ?r16
  case y16 =>
   intro w
   go_simp
   all_goals with_reducible rfl
  refine wpAny_take (i := 4) (v := ?v17) rfl (by kernel_rfl) (by kernel_rfl) (by kernel_rfl) (fun _ _ _ h => h) (Or.inl ⟨by rfl, ?y17⟩) ?r17
  case y17 =>
   intro w
   go_simp
   all_goals with_reducible rfl
  refine wpAny_ready (rs := [3, 5]) (by kernel_rfl) (by simp) ?_
  refine AllReady.cons rfl (fun K hK => ?_) ?_
  go_simp
  go_wp2_with fail
  refine (fC ⟨#[115, 117, 109, 32, 99, 111, 117, 110, 116, 32, 97, 110, 121, 32, 97, 108, 108, 32, 108, 101, 97, 115, 116, 32, 109, 111, 115, 116]⟩ bY _ Hr.out (by decide +kernel) (by decide +kernel) jA).mono ?_
  rintro e x2 ⟨fb, fc, rfl, hfc, hfl, hx2⟩
  have hy2 : Below w4.heap.size w4 x2 := hy1.trans (hx2.mono hy1.size)
  have DZ : x2.cell? ⟨w1.heap.size, 0, none⟩ = some (.string v) := Below.cell_of hy2 kD
  have UQ := qh hfc
  clear hfc
  go_wp2_with fail
  refine ag (i := 5) (by kernel_rfl) rfl (fun K hK => ?_)
  go_simp
  refine hK _ _ ?_
  clear hK K
  refine ag (i := 6) (by kernel_rfl) rfl (fun K hK => ?_)
  go_simp
  go_wp2_with fail
  refine (UO.out fb fc x2 UQ.out).mono ?_
  rintro e x3 ⟨rfl, rfl⟩
  go_wp2_with fail
  refine wpAny_take (i := 7) (v := ?v18) rfl (by kernel_rfl) (by kernel_rfl) (by kernel_rfl) (fun _ _ _ h => h) (Or.inl ⟨by rfl, ?y18⟩) ?r18
  case y18 =>
   intro w
   go_simp
   all_goals with_reducible rfl
  refine wpAny_take (i := 8) (v := ?v19) rfl (by kernel_rfl) (by kernel_rfl) (by kernel_rfl) (fun _ _ _ h => h) (Or.inl ⟨by rfl, ?y19⟩) ?r19
  case y19 =>
   intro w
   go_simp
   all_goals with_reducible rfl
  refine wpAny_done (by kernel_rfl) ?_ _
  try go_wp2_with fail
  go_meet
  exact ⟨by rfl, hy2⟩
  refine AllReady.cons rfl (fun K hK => ?_) AllReady.nil
  go_simp
  refine hK _ _ ?_
  clear hK K
  refine ag (i := 3) (by kernel_rfl) rfl (fun K hK => ?_)
  go_simp
  go_wp2_with fail
  refine (fC ⟨#[115, 117, 109, 32, 99, 111, 117, 110, 116, 32, 97, 110, 121, 32, 97, 108, 108, 32, 108, 101, 97, 115, 116, 32, 109, 111, 115, 116]⟩ bY _ Hr.out (by decide +kernel) (by decide +kernel) jA).mono ?_
  rintro e x2 ⟨fb, fc, rfl, hfc, hfl, hx2⟩
  have hy2 : Below w4.heap.size w4 x2 := hy1.trans (hx2.mono hy1.size)
  have DZ : x2.cell? ⟨w1.heap.size, 0, none⟩ = some (.string v) := Below.cell_of hy2 kD
  have UQ := qh hfc
  clear hfc
  go_wp2_with fail
  refine ag (i := 6) (by kernel_rfl) rfl (fun K hK => ?_)
  go_simp
  go_wp2_with fail
  refine (UO.out fb fc x2 UQ.out).mono ?_
  rintro e x3 ⟨rfl, rfl⟩
  go_wp2_with fail
  refine wpAny_take (i := 7) (v := ?v20) rfl (by kernel_rfl) (by kernel_rfl) (by kernel_rfl) (fun _ _ _ h => h) (Or.inl ⟨by rfl, ?y20⟩) ?r20
  case y20 =>
   intro w
   go_simp
   all_goals with_reducible rfl
  refine wpAny_take (i := 8) (v := ?v21) rfl (by kernel_rfl) (by kernel_rfl) (by kernel_rfl) (fun _ _ _ h => h) (Or.inl ⟨by rfl, ?y21⟩) ?r21
  case y21 =>
   intro w
   go_simp
   all_goals with_reducible rfl
  refine wpAny_done (by kernel_rfl) ?_ _
  try go_wp2_with fail
  go_meet
  exact ⟨by rfl, hy2⟩
 case rest =>
 obtain ⟨rfl, hb5⟩ := hcut
 have Eh := qh (pX.out.below hb5)
 have rq := qh (iK.out.trans (Kp.of hb5))
 have oP := qh (dL.out.below hb5 dL.out.lt)
 have Es := qh (xA.out.below hb5 xA.out.lt)
 have hsz5 := hb5.size
 have UM := qh (HM.out.kp rq.out).all.2.2.2
 have QC := qh (fun W' (hb' : Below wc.heap.size wc W') => Dv.out W' (hb5.trans (hb'.mono hb5.size)))
 clear kD nz hb5
 obtain ⟨kD, nz⟩ := af.c2 Es.out
 have UN := QC
 go_upto_region 27 with (first
  | (go_at_call 175; (with_reducible refine (UN.out wc (Below.refl _ _)).mono ?_); rintro e w6 ⟨rfl, hb6⟩; have Io := qh hb6; have YZ := qh (bD UM.out hb6); have rf : w6.cell? ⟨w1.heap.size, 0, none⟩ = some (.string v) := Below.cell_of hb6 kD; clear hb6)
  | (go_at_call 177; (with_reducible refine (ZK.out w6 YZ.out).mono ?_); rintro e w7 ⟨rfl, hb7⟩; have BL := qh (Io.out.trans (hb7.mono Io.out.size)); clear hb7))
 have GZ := qh (Eh.out.below BL.out)
 have Vw := qh (rq.out.trans (Kp.of BL.out))
 have MV := qh (oP.out.below BL.out oP.out.lt)
 have Xf := BL.out.size
 have NM := qh (iJ GZ.out (HM.out.kp Vw.out).all.2.2.2)
 rw [vX.out.1, vX.out.2, HV.out] at NM
 clear kD nz
 go_wp2_with fail
 refine NM.out.mono ?_
 rintro e w8 ⟨rfl, hs8, hk8⟩
 have Xc := qh hs8
 have Ip := qh hk8
 have uo := MV.out.kp hk8 (by omega)
 clear hs8 hk8
 obtain ⟨aQ, eX, aS, eY, aT, fD, aU, fE, aY, jR, aZ, jS, bu, jT, bz, jU⟩ := af.z8 uo
 go_wp2_with fail
 refine bodyPost_ret (v := .agg #[.int .i64 2, .int .i64 0, .string v, .int .i64 0, .int .i64 0, .string ⟨#[]⟩, .slice none 0 0, .slice none 0 0]) (by simp [results, Tryz.results162, go_sem, aQ, aS, aT, aU, aY, aZ, bu, bz]) rfl ⟨2, 0, v, 0, 0, ⟨#[]⟩, none, 0, 0, none, 0, 0, rfl, ?_⟩
 rw [Hl.out]
 refine RR.ret (L := W.heap.size) Xc.out (Vw.out.trans Ip.out) (fun es l e => ?_) hWs hlt _ _ _ _ _ _ _ _
 injection e with e1 e2
 refine ⟨_, e1.symm, ?_⟩
 have hx := Ho (w := w8) (p := fun b => W.heap.size ≤ b) 2 0 (bH t) (by have h1 := dm (bH t); rw [HV.out] at h1; unfold maxLen; omega)
 rw [HV.out] at hx
 exact hx
end Go.Proofs.YtobanldeicclmaaGreatDoor
