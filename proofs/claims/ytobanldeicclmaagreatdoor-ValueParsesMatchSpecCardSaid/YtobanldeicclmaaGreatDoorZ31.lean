/- Lemmas for the claim: walks and plain laws. -/
import Derived.Test.YtobanldeicclmaaGreatDoorZ30
set_option maxHeartbeats 16000000
set_option maxRecDepth 100000
namespace Go.Proofs.YtobanldeicclmaaGreatDoor
open Go.RowKit Vtx
attribute [local go_sem ↓] Go.wp_at_zero Go.wp_at_succ
theorem MW (s : ByteArray) (t : Tok) (r : List Tok) (hn : nameB (bH t) = true) (hcl : (RM.at_ (t :: r)).cl = true) (hov : cZ (bH t) ≠ 0) (hz : s.size ≤ 4000) (hO : ∀ st' : RM, st'.l.length < (t :: r).length → MS 15 .or s st') : MS 162 .az s (.at_ (t :: r)) := by
 intro g w hp hm
 have hlt := hp.lt
 have HM := qh hm
 have qf := qh hp
 obtain ⟨i9, hi9, hL⟩ := hp.2
 have Uy := qh hL.symm
 have hbd := jV hL
 have h0 := jy (s := s) (i := i9) t r hL.symm
 obtain ⟨v, hv⟩ := ae (tb (bH t))
 obtain ⟨a, ha⟩ := ae (t.at_)
 have zx := qh (show tb ((RM.at_ (t :: r)).pk s.size).1 = v from hv)
 have jD := qh (show ((RM.at_ (t :: r)).pk s.size).2 = a from ha)
 have HAT := qh (show a = (RM.at_ (t :: r)).ref s.size from ha.symm)
 have HV := qh hv
 have vT := qh (show v.data.toList = bH t by rw [← hv, bT])
 have hvs : v.size ≤ 4001 := by rw [← hv, dm]; omega
 have hem := kM hv h0
 obtain ⟨hu0, -⟩ := jJ hv h0
 have hnf := lN hn
 have hmo := rJ hn
 have GM := qh hnf.2.2.2
 have wU := qh hmo.2
 have YF := qh hn
 have hb : bH t ≠ [40] := hnf.2.1
 have yX := qh (show (RM.at_ (t :: r)).is [40] = false from decide_eq_false hb)
 have G6 : v.data.toList = bH t := vT.out
 have qN := qh (fun W hW => jk v W hW)
 rw [G6, hmo.1] at qN
 have HZ := qh hz
 obtain ⟨R, hR⟩ := ae ((RM.at_ (t :: r)).P s.data.toList.length .az)
 have Xe := qh (nP (t := t) rfl hnf.1)
 rw [hR]
 have HO := qh hO
 obtain ⟨u, r', MN⟩ : ∃ u r', r = u :: r' := by
  cases r with
  | nil => cases hcl
  | cons u r' => exact ⟨u, r', rfl⟩
 have HRU := qh MN
 have Y0 := qh (show r'.length + 2 ≤ (t :: r).length by rw [MN]; simp)
 have hrw : bH t ≠ pI := fun e => hov (by rw [e]; decide)
 have YX : (v.toList == [114, 111, 119]) = false := by rw [ByteArray.toList_eq, vT.out, beq_eq_false_iff_ne]; exact hrw
 have hcon : Lib.containsS (mD bY) v = true := by
  rw [← hv]
  exact (G5 (bH t)).trans (decide_eq_true hov)
 have UO := qh (fun b c W => qM bY (bH t) b c W (by decide))
 rw [hv, hcon] at UO
 have Oc := qh (fun b c W => CQ bY (bH t) b c W (by decide))
 have hbd2 := Ob bY (bH t) (by decide)
 have hoi := Oa (bH t)
 obtain ⟨i, hi0⟩ := ae (yT bY (bH t))
 rw [hi0] at Oc hbd2 hoi
 rw [hv] at Oc
 have hi1 : 0 ≤ i := by
  rcases Int.lt_or_le i 0 with h | h
  ·
   rw [if_neg (by omega)] at hoi
   exact absurd hoi.symm hov
  ·
   exact h
 have aaX : cZ (bH t) = i + 1 := by rw [← hoi, if_pos hi1]
 have Ep := qh (show IntKind.i64.wrap (i + 1) = i + 1 from IntWalk.i64_in _ (by omega))
 have Hl := qh (show R = overR s.data.toList.length (i + 1) (.at_ r') from hR.symm.trans ((Ql hn (by rw [← rG hL.symm Xe.out.1]; exact hcl) aaX (by omega)).trans (by rw [MN]; rfl)))
 have Hq := qh hcl
 clear hoi aaX hi0
 have hn0 := mF GM.out
 obtain ⟨c0, y0, hcy, hlc⟩ := hn0
 have uX := nS hv hcy
 obtain ⟨_, uX⟩ := uX
 have Di : ¬ ((v[0].toNat : Nat) : Int) < 97 := by rw [uX]; have := hlc; unfold dE at this; simp at this; omega
 have uY : ¬ 122 < ((v[0].toNat : Nat) : Int) := by rw [uX]; have := hlc; unfold dE at this; simp at this; omega
 have d1 : decide (((v[0].toNat : Nat) : Int) < 97) = false := by simpa using Di
 have d2 : decide (122 < ((v[0].toNat : Nat) : Int)) = false := by simpa using uY
 have b1 : (v.toList == [116, 114, 117, 101]) = false := by rw [ByteArray.toList_eq, vT.out, beq_eq_false_iff_ne]; exact wU.out.1
 have b2 : (v.toList == [102, 97, 108, 115, 101]) = false := by rw [ByteArray.toList_eq, vT.out, beq_eq_false_iff_ne]; exact wU.out.2
 clear hcy hlc uX
 clear hp hm hR hv ha hL hb h0 hnf hmo hn G6 hz hcl hov hrw hcon MN hO
 go_enter Tryz.func162, Tryz.ntmps162
 go_upto_region 1 with (fail)
 obtain ⟨W, hW, hkW, fV, hszW, hWs, -⟩ := iV g w
 have ny := qh (show dQ W g s (.at_ (t :: r)) by rw [hW]; exact qf.out.alloc _)
 have oZ := qh (HM.out.kp hkW)
 rw [← hW]
 clear hW
 have kY := qh (kX ny.out)
 rw [zx.out, jD.out] at kY
 go_upto_region 2 with (go_at_call 17; (with_reducible refine kY.out.mono ?_); rintro e w1 ⟨rfl, hb1⟩)
 obtain ⟨W1, hW1⟩ := au (w1.alloc (.cells #[.string v, .int .i64 (a : Nat)] 48 (0, 0)))
 have hbW : Below W.heap.size W W1 := by rw [hW1]; exact hb1.alloc hb1.size _
 have BT : af W1 w1.heap.size 48 #[.string v, .int .i64 (a : Nat)] := by rw [hW1]; exact af.new w1 _ _
 have hsW : W.heap.size ≤ w1.heap.size := hb1.size
 rw [← hW1]
 clear hW1 hb1
 have mW := qh (hkW.trans (Kp.of hbW))
 have qc := qh (ny.out.below hbW)
 have eG := qh (fV.out.below hbW fV.out.lt)
 obtain ⟨kD, nz⟩ := af.c2 BT
 have C9 : W.heap.size ≤ W1.heap.size := hbW.size
 have yh := qh (wH qc.out yX.out)
 rw [show tb [40] = ⟨#[40]⟩ from rfl] at yh
 go_upto_region 8 with (go_at_call 37; (with_reducible refine yh.out.mono ?_); rintro e w2 ⟨rfl, rfl⟩)
 have Dj := qh (HM.out.kp mW.out).all.2.2.2
 go_wp2_with fail
 refine (qN.out W1 Dj.out).mono ?_
 rintro e w2 ⟨rfl, hb2⟩
 have HS2 := qh (qc.out.below hb2)
 have mG := qh (mW.out.trans (Kp.of hb2))
 have iC := qh (eG.out.below hb2 eG.out.lt)
 have qj := qh (BT.below hb2 BT.lt)
 have hsz2 := hb2.size
 clear kD nz BT
 obtain ⟨kD, nz⟩ := af.c2 qj.out
 have Ej := qh (fun W' (hb' : Below w2.heap.size w2 W') => oC (HS2.out.below hb') HZ.out)
 rw [Hq.out] at Ej
 go_upto_region 17 with (go_at_call 175; (with_reducible refine (Ej.out w2 (Below.refl _ _)).mono ?_); rintro e w4 ⟨rfl, hb4⟩; have HB4 := qh hb4; have YY : w4.cell? ⟨w1.heap.size, 0, none⟩ = some (.string v) := Below.cell_of hb4 kD; clear hb4)
 have hb4 := HB4.out
 have pX := qh (HS2.out.below hb4)
 have iK := qh (mG.out.trans (Kp.of hb4))
 have dL := qh (iC.out.below hb4 iC.out.lt)
 have xA := qh (qj.out.below hb4 qj.out.lt)
 have vW := hb4.size
 have MQ := qh (HM.out.kp iK.out).all.2.2.2
 have Dv := qh (fun W' (hb' : Below w4.heap.size w4 W') => Ej.out W' (hb4.trans (hb'.mono hb4.size)))
 clear kD nz YY hb4
 obtain ⟨kD, nz⟩ := af.c2 xA.out
 go_upto_region 17 with (fail)
 go_cut [76] (fun v wc => v = .bool true ∧ Below w4.heap.size w4 wc)
 case first =>
  refine wp_region_any (by kernel_rfl) ?_
  change wpAny _ _ _ _ _ _ _ (World.drew _)
  refine wpAny_take (i := 0) (v := ?v22) rfl (by kernel_rfl) (by kernel_rfl) (by kernel_rfl) (fun _ _ _ h => h) (Or.inl ⟨by rfl, ?y22⟩) ?r22
  case y22 =>
   intro w
   go_simp
   all_goals with_reducible rfl
  refine ag (i := 1) (by kernel_rfl) rfl (fun K hK => ?_)
  go_simp
  go_wp2_with fail
  refine (Dv.out _ (Below.refl _ _).drew).mono ?_
  rintro e x1 ⟨rfl, hx1⟩
  have hy1 : Below w4.heap.size w4 x1 := ((Below.refl _ w4).drew).trans hx1
  have Hr := qh (bD MQ.out hy1)
  have Fp : x1.cell? ⟨w1.heap.size, 0, none⟩ = some (.string v) := Below.cell_of hy1 kD
  go_wp2_with fail
  refine wpAny_take (i := 2) (v := ?v23) rfl (by kernel_rfl) (by kernel_rfl) (by kernel_rfl) (fun _ _ _ h => h) (Or.inl ⟨by rfl, ?y23⟩) ?r23
  case y23 =>
   intro w
   go_simp
   all_goals with_reducible rfl
  refine wpAny_take (i := 4) (v := ?v24) rfl (by kernel_rfl) (by kernel_rfl) (by kernel_rfl) (fun _ _ _ h => h) (Or.inl ⟨by rfl, ?y24⟩) ?r24
  case y24 =>
   intro w
   go_simp
   all_goals with_reducible rfl
  refine wpAny_ready (rs := [3, 5]) (by kernel_rfl) (by simp) ?_
  refine AllReady.cons rfl (fun K hK => ?_) ?_
  go_simp
  go_wp2_with fail
  refine (fC ⟨#[115, 117, 109, 32, 99, 111, 117, 110, 116, 32, 97, 110, 121, 32, 97, 108, 108, 32, 108, 101, 97, 115, 116, 32, 109, 111, 115, 116]⟩ bY _ Hr.out (by decide +kernel) (by decide +kernel) jA).mono ?_
  rintro e x2 ⟨fb, fc, rfl, hfc, hfl, hx2⟩
  have hy2 : Below w4.heap.size w4 x2 := hy1.trans (hx2.mono hy1.size)
  have DZ : x2.cell? ⟨w1.heap.size, 0, none⟩ = some (.string v) := Below.cell_of hy2 kD
  have UQ := qh hfc
  clear hfc
  go_wp2_with fail
  refine ag (i := 5) (by kernel_rfl) rfl (fun K hK => ?_)
  go_simp
  refine hK _ _ ?_
  clear hK K
  refine ag (i := 6) (by kernel_rfl) rfl (fun K hK => ?_)
  go_simp
  go_wp2_with fail
  refine (UO.out fb fc x2 UQ.out).mono ?_
  rintro e x3 ⟨rfl, rfl⟩
  go_wp2_with fail
  refine wpAny_take (i := 7) (v := ?v25) rfl (by kernel_rfl) (by kernel_rfl) (by kernel_rfl) (fun _ _ _ h => h) (Or.inl ⟨by rfl, ?y25⟩) ?r25
  case y25 =>
   intro w
   go_simp
   all_goals with_reducible rfl
  refine wpAny_take (i := 8) (v := ?v26) rfl (by kernel_rfl) (by kernel_rfl) (by kernel_rfl) (fun _ _ _ h => h) (Or.inl ⟨by rfl, ?y26⟩) ?r26
  case y26 =>
   intro w
   go_simp
   all_goals with_reducible rfl
  refine wpAny_done (by kernel_rfl) ?_ _
  try go_wp2_with fail
  go_meet
  exact ⟨by rfl, hy2⟩
  refine AllReady.cons rfl (fun K hK => ?_) AllReady.nil
  go_simp
  refine hK _ _ ?_
  clear hK K
  refine ag (i := 3) (by kernel_rfl) rfl (fun K hK => ?_)
  go_simp
  go_wp2_with fail
  refine (fC ⟨#[115, 117, 109, 32, 99, 111, 117, 110, 116, 32, 97, 110, 121, 32, 97, 108, 108, 32, 108, 101, 97, 115, 116, 32, 109, 111, 115, 116]⟩ bY _ Hr.out (by decide +kernel) (by decide +kernel) jA).mono ?_
  rintro e x2 ⟨fb, fc, rfl, hfc, hfl, hx2⟩
  have hy2 : Below w4.heap.size w4 x2 := hy1.trans (hx2.mono hy1.size)
  have DZ : x2.cell? ⟨w1.heap.size, 0, none⟩ = some (.string v) := Below.cell_of hy2 kD
  have UQ := qh hfc
  clear hfc
  go_wp2_with fail
  refine ag (i := 6) (by kernel_rfl) rfl (fun K hK => ?_)
  go_simp
  go_wp2_with fail
  refine (UO.out fb fc x2 UQ.out).mono ?_
  rintro e x3 ⟨rfl, rfl⟩
  go_wp2_with fail
  refine wpAny_take (i := 7) (v := ?v27) rfl (by kernel_rfl) (by kernel_rfl) (by kernel_rfl) (fun _ _ _ h => h) (Or.inl ⟨by rfl, ?y27⟩) ?r27
  case y27 =>
   intro w
   go_simp
   all_goals with_reducible rfl
  refine wpAny_take (i := 8) (v := ?v28) rfl (by kernel_rfl) (by kernel_rfl) (by kernel_rfl) (fun _ _ _ h => h) (Or.inl ⟨by rfl, ?y28⟩) ?r28
  case y28 =>
   intro w
   go_simp
   all_goals with_reducible rfl
  refine wpAny_done (by kernel_rfl) ?_ _
  try go_wp2_with fail
  go_meet
  exact ⟨by rfl, hy2⟩
 case rest =>
 obtain ⟨rfl, hb5⟩ := hcut
 have Eh := qh (pX.out.below hb5)
 have rq := qh (iK.out.trans (Kp.of hb5))
 have oP := qh (dL.out.below hb5 dL.out.lt)
 have Es := qh (xA.out.below hb5 xA.out.lt)
 have hsz5 := hb5.size
 have UM := qh (HM.out.kp rq.out).all.2.2.2
 have QC := qh (fun W' (hb' : Below wc.heap.size wc W') => Dv.out W' (hb5.trans (hb'.mono hb5.size)))
 clear kD nz hb5
 obtain ⟨kD, nz⟩ := af.c2 Es.out
 obtain ⟨ad, c, A2, c2, gc0, gz0, hsl, hst⟩ := Du (show dQ wc g s (.at_ (t :: u :: r')) by rw [← HRU.out]; exact Eh.out)
 have HST := qh hst
 clear hst
 go_upto_region 19 with (fail)
 obtain ⟨V, hV⟩ := au (wc.setCell ⟨g, 0, none⟩ (.slice A2 r'.length c2))
 have J6 := qh (show dQ V g s (.at_ r') by rw [hV]; exact HST.out)
 have zI := qh (show Kp g w V by rw [hV]; exact rq.out.set 0 _)
 have tH := qh (show Kp g wc V by rw [hV]; exact (iR g _).set 0 _)
 have Vt : V.heap.size = wc.heap.size := by rw [hV]; simp [World.setCell]
 have uj := qh (oP.out.kp tH.out (by omega))
 have BTV := Es.out.kp tH.out (by omega)
 have Ht : V.cell? ⟨w1.heap.size, 0, none⟩ = some (.string v) := BTV.cell 0
 have hgV : g < V.heap.size := J6.out.lt
 rw [← hV]
 clear hV HST kD nz BTV
 have MX := qh (HM.out.kp zI.out).all.2.2.2
 have Ic := qh (UL J6.out HZ.out)
 obtain ⟨nm, hnm⟩ := ae ((RM.at_ r').nm.getD [])
 rw [hnm] at Ic
 obtain ⟨x, hx⟩ := ae (tb nm)
 have vX := qh (show tb ((RM.at_ r').nm.getD []) = x by rw [hnm, hx])
 have HX := qh hx
 have HOS := qh (MB (n := s.data.toList.length) (o := i + 1) (st := .at_ r'))
 rw [hnm] at HOS
 clear hnm hx
 go_cut [6] (fun p wd => ∃ be : Nat, p = .pointer (some ⟨be, 0, none⟩) ∧ Hid (af wd be 27 #[.int .i64 5, .int .i64 (i + 1), .string x, .int .i64 0, .int .i64 0, .string ⟨#[]⟩, .slice none 0 0, .slice none 0 0]) ∧ Hid (dQ wd g s ((RM.at_ r').CX s.size)) ∧ Hid (Kp g V wd) ∧ V.heap.size ≤ be ∧ be < wd.heap.size)
 case first =>
  refine wp_region_any (by kernel_rfl) ?_
  change wpAny _ _ _ _ _ _ _ (World.drew _)
  obtain ⟨x0, hx0⟩ := au (V.drew)
  have hy0 : Below V.heap.size V x0 := by rw [hx0]; exact (Below.refl _ _).drew
  have Fp : x0.cell? ⟨w1.heap.size, 0, none⟩ = some (.string v) := Below.cell_of hy0 Ht
  have hsz0 : V.heap.size ≤ x0.heap.size := hy0.size
  rw [← hx0]
  clear hx0
  refine wpAny_take (i := 1) (v := ?v29) rfl (by kernel_rfl) (by kernel_rfl) (by kernel_rfl) (fun _ _ _ h => h) (Or.inl ⟨by rfl, ?y29⟩) ?r29
  case y29 =>
   intro w
   go_simp
   all_goals with_reducible rfl
  refine wpAny_take (i := 5) (v := ?v30) rfl (by kernel_rfl) (by kernel_rfl) (by kernel_rfl) (fun _ _ _ h => h) (Or.inl ⟨by rfl, ?y30⟩) ?r30
  case y30 =>
   intro w
   go_simp
   all_goals with_reducible rfl
  refine wpAny_ready (rs := [0, 2, 8]) (by kernel_rfl) (by simp) ?_
  refine AllReady.cons rfl (fun K hK => ?_) ?_
  go_simp
  go_wp2_with fail
  refine (fC ⟨#[115, 117, 109, 32, 99, 111, 117, 110, 116, 32, 97, 110, 121, 32, 97, 108, 108, 32, 108, 101, 97, 115, 116, 32, 109, 111, 115, 116]⟩ bY x0 (bD MX.out hy0) (by decide +kernel) (by decide +kernel) jA).mono ?_
  rintro e x1 ⟨fb, fc, rfl, hfc, hfl, hx⟩
  have hy1 : Below V.heap.size V x1 := hy0.trans (hx.mono hy0.size)
  have KC : x1.cell? ⟨w1.heap.size, 0, none⟩ = some (.string v) := Below.cell_of hy1 Ht
  have hsz1 : V.heap.size ≤ x1.heap.size := hy1.size
  have aaZ := qh hfc
  clear hfc hx
  go_wp2_with fail
  refine wpAny_ready (rs := [2, 8]) (by kernel_rfl) (by simp) ?_
  refine AllReady.cons rfl (fun K hK => ?_) ?_
  go_simp
  refine hK _ _ ?_
  clear hK K
  obtain ⟨x2, hx⟩ := au (x1)
  have hy2 : Below V.heap.size V x2 := by rw [hx]; exact hy1
  have hsz2 : V.heap.size ≤ x2.heap.size := hy2.size
  have DZ : x2.cell? ⟨w1.heap.size, 0, none⟩ = some (.string v) := Below.cell_of hy2 Ht
  have aa0 := qh (show ∀ j, j < bY.length → x2.cell? ⟨fb, 0 + j, none⟩ = some (.string ((mD bY).getD j ByteArray.empty)) by rw [hx]; exact aaZ.out)
  rw [← hx]
  clear hx
  refine wpAny_ready (rs := [3, 8]) (by kernel_rfl) (by simp) ?_
  refine AllReady.cons rfl (fun K hK => ?_) ?_
  go_simp
  go_wp2_with fail
  refine (Oc.out fb fc x2 aa0.out).mono ?_
  rintro e x3 ⟨rfl, hx⟩
  have hy3 : Below V.heap.size V x3 := by rw [← hx]; exact hy2
  have hsz3 : V.heap.size ≤ x3.heap.size := hy3.size
  clear hx
  go_wp2_with fail
  refine wpAny_take (i := 4) (v := ?v31) rfl (by kernel_rfl) (by kernel_rfl) (by kernel_rfl) (fun _ _ _ h => h) (Or.inl ⟨by rfl, ?y31⟩) ?r31
  case y31 =>
   intro w
   go_simp
   all_goals with_reducible rfl
  refine wpAny_ready (rs := [6, 8]) (by kernel_rfl) (by simp) ?_
  refine AllReady.cons rfl (fun K hK => ?_) ?_
  go_simp
  go_wp2_with fail
  refine (iJ (J6.out.below hy3) (HM.out.kp (zI.out.trans (Kp.of hy3))).all.2.2.2).mono ?_
  rw [vX.out]
  rintro e x4 ⟨rfl, hs4, hkn⟩
  have hk4 : Kp g V x4 := (Kp.of hy3).trans hkn
  have vW : V.heap.size ≤ x4.heap.size := hk4.size
  clear hkn
  go_wp2_with fail
  refine wpAny_take (i := 7) (v := ?v32) rfl (by kernel_rfl) (by kernel_rfl) (by kernel_rfl) (fun _ _ _ h => h) (Or.inl ⟨by rfl, ?y32⟩) ?r32
  case y32 =>
   intro w
   go_simp
   all_goals with_reducible rfl
  refine ag (i := 8) (by kernel_rfl) rfl (fun K hK => ?_)
  go_simp
  refine hK _ _ ?_
  clear hK K
  obtain ⟨x5, hx⟩ := au (x4.alloc (.cells #[.int .i64 0, .int .i64 0, .string ⟨#[]⟩, .int .i64 0, .int .i64 0, .string ⟨#[]⟩, .slice none 0 0, .slice none 0 0] 27 (0, 0)))
  have BE5 : ZB x5 x4.heap.size := by rw [hx]; exact af.new x4 _ _
  have hk5 : Kp g V x5 := by rw [hx]; exact hk4.alloc _
  have hs5 : dQ x5 g s ((RM.at_ r').CX s.size) := by rw [hx]; exact hs4.alloc _
  have hsz5 : V.heap.size ≤ x5.heap.size := hk5.size
  rw [← hx]
  clear hx
  obtain ⟨iW, P5, qc1, P6, qc2, P7, qc3, P8, qc4, P9, qc5, Qa, qc6, Qb, N8, Qc⟩ := af.z8 BE5
  refine ag (i := 9) (by kernel_rfl) rfl (fun K hK => ?_)
  go_simp
  refine hK _ _ ?_
  clear hK K
  refine wpAny_done (by kernel_rfl) ?_ _
  try go_wp2_with fail
  go_meet
  rw [Ep.out]
  exact ⟨x4.heap.size, by rfl, qh (iy BE5 _ _ _ _ _ _ _ _), qh (dQ.dU hs5 (by omega) _ _ _ _ _ _ _ _), qh (fF hk5 (by omega) _ _ _ _ _ _ _ _), by omega, by rw [df]; exact BE5.lt⟩
  refine AllReady.cons rfl (fun K hK => ?_) AllReady.nil
  go_simp
  refine hK _ _ ?_
  clear hK K
  obtain ⟨x7, hx⟩ := au (x3.alloc (.cells #[.int .i64 0, .int .i64 0, .string ⟨#[]⟩, .int .i64 0, .int .i64 0, .string ⟨#[]⟩, .slice none 0 0, .slice none 0 0] 27 (0, 0)))
  have BE7 : ZB x7 x3.heap.size := by rw [hx]; exact af.new x3 _ _
  have hy7 : Below V.heap.size V x7 := by rw [hx]; exact hy3.alloc hy3.size _
  have Xf : V.heap.size ≤ x7.heap.size := hy7.size
  have PZ : x7.cell? ⟨w1.heap.size, 0, none⟩ = some (.string v) := Below.cell_of hy7 Ht
  rw [← hx]
  clear hx
  refine ag (i := 6) (by kernel_rfl) rfl (fun K hK => ?_)
  go_simp
  go_wp2_with fail
  refine (iJ (J6.out.below hy7) (HM.out.kp (zI.out.trans (Kp.of hy7))).all.2.2.2).mono ?_
  rw [vX.out]
  rintro e x8 ⟨rfl, hs8, hkn⟩
  have hk8 : Kp g V x8 := (Kp.of hy7).trans hkn
  have aa2 : V.heap.size ≤ x8.heap.size := hk8.size
  have BE8 := BE7.kp hkn (by omega)
  clear hkn
  go_wp2_with fail
  refine wpAny_take (i := 7) (v := ?v33) rfl (by kernel_rfl) (by kernel_rfl) (by kernel_rfl) (fun _ _ _ h => h) (Or.inl ⟨by rfl, ?y33⟩) ?r33
  case y33 =>
   intro w
   go_simp
   all_goals with_reducible rfl
  obtain ⟨iW, P5, qc1, P6, qc2, P7, qc3, P8, qc4, P9, qc5, Qa, qc6, Qb, N8, Qc⟩ := af.z8 BE8
  refine ag (i := 9) (by kernel_rfl) rfl (fun K hK => ?_)
  go_simp
  refine hK _ _ ?_
  clear hK K
  refine wpAny_done (by kernel_rfl) ?_ _
  try go_wp2_with fail
  go_meet
  rw [Ep.out]
  exact ⟨x3.heap.size, by rfl, qh (iy BE8 _ _ _ _ _ _ _ _), qh (dQ.dU hs8 (by omega) _ _ _ _ _ _ _ _), qh (fF hk8 (by omega) _ _ _ _ _ _ _ _), by omega, by rw [df]; exact BE8.lt⟩
  refine AllReady.cons rfl (fun K hK => ?_) AllReady.nil
  go_simp
  refine hK _ _ ?_
  clear hK K
  obtain ⟨x10, hx⟩ := au (x2.alloc (.cells #[.int .i64 0, .int .i64 0, .string ⟨#[]⟩, .int .i64 0, .int .i64 0, .string ⟨#[]⟩, .slice none 0 0, .slice none 0 0] 27 (0, 0)))
  have ad4 : ZB x10 x2.heap.size := by rw [hx]; exact af.new x2 _ _
  have Y1 : Below V.heap.size V x10 := by rw [hx]; exact hy2.alloc hy2.size _
  have afM : V.heap.size ≤ x10.heap.size := Y1.size
  have ahW : x10.cell? ⟨w1.heap.size, 0, none⟩ = some (.string v) := Below.cell_of Y1 Ht
  have aa3 := qh (show ∀ j, j < bY.length → x10.cell? ⟨fb, 0 + j, none⟩ = some (.string ((mD bY).getD j ByteArray.empty)) by rw [hx]; exact fun j hj => Below.cell_of ((Below.refl _ _).alloc (Nat.le_refl _) _) (aa0.out j hj))
  rw [← hx]
  clear hx
  refine ag (i := 3) (by kernel_rfl) rfl (fun K hK => ?_)
  go_simp
  go_wp2_with fail
  refine (Oc.out fb fc x10 aa3.out).mono ?_
  rintro e x11 ⟨rfl, hx⟩
  have Xg : Below V.heap.size V x11 := by rw [← hx]; exact Y1
  have afN : V.heap.size ≤ x11.heap.size := Xg.size
  have ad5 : ZB x11 x2.heap.size := by rw [← hx]; exact ad4
  clear hx
  go_wp2_with fail
  refine wpAny_take (i := 4) (v := ?v34) rfl (by kernel_rfl) (by kernel_rfl) (by kernel_rfl) (fun _ _ _ h => h) (Or.inl ⟨by rfl, ?y34⟩) ?r34
  case y34 =>
   intro w
   go_simp
   all_goals with_reducible rfl
  refine ag (i := 6) (by kernel_rfl) rfl (fun K hK => ?_)
  go_simp
  go_wp2_with fail
  refine (iJ (J6.out.below Xg) (HM.out.kp (zI.out.trans (Kp.of Xg))).all.2.2.2).mono ?_
  rw [vX.out]
  rintro e x12 ⟨rfl, ad6, hkn⟩
  have hk12 : Kp g V x12 := (Kp.of Xg).trans hkn
  have afO : V.heap.size ≤ x12.heap.size := hk12.size
  have Y2 := ad5.kp hkn (by omega)
  clear hkn
  go_wp2_with fail
  refine wpAny_take (i := 7) (v := ?v35) rfl (by kernel_rfl) (by kernel_rfl) (by kernel_rfl) (fun _ _ _ h => h) (Or.inl ⟨by rfl, ?y35⟩) ?r35
  case y35 =>
   intro w
   go_simp
   all_goals with_reducible rfl
  obtain ⟨iW, P5, qc1, P6, qc2, P7, qc3, P8, qc4, P9, qc5, Qa, qc6, Qb, N8, Qc⟩ := af.z8 Y2
  refine ag (i := 9) (by kernel_rfl) rfl (fun K hK => ?_)
  go_simp
  refine hK _ _ ?_
  clear hK K
  refine wpAny_done (by kernel_rfl) ?_ _
  try go_wp2_with fail
  go_meet
  rw [Ep.out]
  exact ⟨x2.heap.size, by rfl, qh (iy Y2 _ _ _ _ _ _ _ _), qh (dQ.dU ad6 (by omega) _ _ _ _ _ _ _ _), qh (fF hk12 (by omega) _ _ _ _ _ _ _ _), by omega, by rw [df]; exact Y2.lt⟩
  refine AllReady.cons rfl (fun K hK => ?_) AllReady.nil
  go_simp
  refine hK _ _ ?_
  clear hK K
  obtain ⟨x14, hx⟩ := au (x1.alloc (.cells #[.int .i64 0, .int .i64 0, .string ⟨#[]⟩, .int .i64 0, .int .i64 0, .string ⟨#[]⟩, .slice none 0 0, .slice none 0 0] 27 (0, 0)))
  have ad7 : ZB x14 x1.heap.size := by rw [hx]; exact af.new x1 _ _
  have Y3 : Below V.heap.size V x14 := by rw [hx]; exact hy1.alloc hy1.size _
  have afP : V.heap.size ≤ x14.heap.size := Y3.size
  have ahX : x14.cell? ⟨w1.heap.size, 0, none⟩ = some (.string v) := Below.cell_of Y3 Ht
  have aa4 := qh (show ∀ j, j < bY.length → x14.cell? ⟨fb, 0 + j, none⟩ = some (.string ((mD bY).getD j ByteArray.empty)) by rw [hx]; exact fun j hj => Below.cell_of ((Below.refl _ _).alloc (Nat.le_refl _) _) (aaZ.out j hj))
  rw [← hx]
  clear hx
  refine ag (i := 2) (by kernel_rfl) rfl (fun K hK => ?_)
  go_simp
  refine hK _ _ ?_
  clear hK K
  obtain ⟨x15, hx⟩ := au (x14)
  have Y4 : Below V.heap.size V x15 := by rw [hx]; exact Y3
  have afQ : V.heap.size ≤ x15.heap.size := Y4.size
  have ahY : x15.cell? ⟨w1.heap.size, 0, none⟩ = some (.string v) := Below.cell_of Y4 Ht
  have ad8 : ZB x15 x1.heap.size := by rw [hx]; exact ad7
  have aa5 := qh (show ∀ j, j < bY.length → x15.cell? ⟨fb, 0 + j, none⟩ = some (.string ((mD bY).getD j ByteArray.empty)) by rw [hx]; exact aa4.out)
  rw [← hx]
  clear hx
  refine ag (i := 3) (by kernel_rfl) rfl (fun K hK => ?_)
  go_simp
  go_wp2_with fail
  refine (Oc.out fb fc x15 aa5.out).mono ?_
  rintro e x16 ⟨rfl, hx⟩
  have Xh : Below V.heap.size V x16 := by rw [← hx]; exact Y4
  have afR : V.heap.size ≤ x16.heap.size := Xh.size
  have ad9 : ZB x16 x1.heap.size := by rw [← hx]; exact ad8
  clear hx
  go_wp2_with fail
  refine wpAny_take (i := 4) (v := ?v36) rfl (by kernel_rfl) (by kernel_rfl) (by kernel_rfl) (fun _ _ _ h => h) (Or.inl ⟨by rfl, ?y36⟩) ?r36
  case y36 =>
   intro w
   go_simp
   all_goals with_reducible rfl
  refine ag (i := 6) (by kernel_rfl) rfl (fun K hK => ?_)
  go_simp
  go_wp2_with fail
  refine (iJ (J6.out.below Xh) (HM.out.kp (zI.out.trans (Kp.of Xh))).all.2.2.2).mono ?_
  rw [vX.out]
  rintro e x17 ⟨rfl, aea, hkn⟩
  have aa6 : Kp g V x17 := (Kp.of Xh).trans hkn
  have afS : V.heap.size ≤ x17.heap.size := aa6.size
  have Y5 := ad9.kp hkn (by omega)
  clear hkn
  go_wp2_with fail
  refine wpAny_take (i := 7) (v := ?v37) rfl (by kernel_rfl) (by kernel_rfl) (by kernel_rfl) (fun _ _ _ h => h) (Or.inl ⟨by rfl, ?y37⟩) ?r37
  case y37 =>
   intro w
   go_simp
   all_goals with_reducible rfl
  obtain ⟨iW, P5, qc1, P6, qc2, P7, qc3, P8, qc4, P9, qc5, Qa, qc6, Qb, N8, Qc⟩ := af.z8 Y5
  refine ag (i := 9) (by kernel_rfl) rfl (fun K hK => ?_)
  go_simp
  refine hK _ _ ?_
  clear hK K
  refine wpAny_done (by kernel_rfl) ?_ _
  try go_wp2_with fail
  go_meet
  rw [Ep.out]
  exact ⟨x1.heap.size, by rfl, qh (iy Y5 _ _ _ _ _ _ _ _), qh (dQ.dU aea (by omega) _ _ _ _ _ _ _ _), qh (fF aa6 (by omega) _ _ _ _ _ _ _ _), by omega, by rw [df]; exact Y5.lt⟩
  refine AllReady.cons rfl (fun K hK => ?_) ?_
  go_simp
  refine hK _ _ ?_
  clear hK K
  obtain ⟨x19, hx⟩ := au (x0)
  have MZ : Below V.heap.size V x19 := by rw [hx]; exact hy0
  have afT : V.heap.size ≤ x19.heap.size := MZ.size
  have ah1 : x19.cell? ⟨w1.heap.size, 0, none⟩ = some (.string v) := Below.cell_of MZ Ht
  rw [← hx]
  clear hx
  refine wpAny_ready (rs := [0, 8]) (by kernel_rfl) (by simp) ?_
  refine AllReady.cons rfl (fun K hK => ?_) ?_
  go_simp
  go_wp2_with fail
  refine (fC ⟨#[115, 117, 109, 32, 99, 111, 117, 110, 116, 32, 97, 110, 121, 32, 97, 108, 108, 32, 108, 101, 97, 115, 116, 32, 109, 111, 115, 116]⟩ bY x19 (bD MX.out MZ) (by decide +kernel) (by decide +kernel) jA).mono ?_
  rintro e x20 ⟨fb, fc, rfl, hfc, hfl, hx⟩
  have UR : Below V.heap.size V x20 := MZ.trans (hx.mono MZ.size)
  have ah2 : x20.cell? ⟨w1.heap.size, 0, none⟩ = some (.string v) := Below.cell_of UR Ht
  have afU : V.heap.size ≤ x20.heap.size := UR.size
  have XZ := qh hfc
  clear hfc hx
  go_wp2_with fail
  refine wpAny_ready (rs := [3, 8]) (by kernel_rfl) (by simp) ?_
  refine AllReady.cons rfl (fun K hK => ?_) ?_
  go_simp
  go_wp2_with fail
  refine (Oc.out fb fc x20 XZ.out).mono ?_
  rintro e ZL ⟨rfl, hx⟩
  have QD : Below V.heap.size V ZL := by rw [← hx]; exact UR
  have afV : V.heap.size ≤ ZL.heap.size := QD.size
  clear hx
  go_wp2_with fail
  refine wpAny_take (i := 4) (v := ?v38) rfl (by kernel_rfl) (by kernel_rfl) (by kernel_rfl) (fun _ _ _ h => h) (Or.inl ⟨by rfl, ?y38⟩) ?r38
  case y38 =>
   intro w
   go_simp
   all_goals with_reducible rfl
  refine wpAny_ready (rs := [6, 8]) (by kernel_rfl) (by simp) ?_
  refine AllReady.cons rfl (fun K hK => ?_) ?_
  go_simp
  go_wp2_with fail
  refine (iJ (J6.out.below QD) (HM.out.kp (zI.out.trans (Kp.of QD))).all.2.2.2).mono ?_
  rw [vX.out]
  rintro e ZM ⟨rfl, aeb, hkn⟩
  have aa7 : Kp g V ZM := (Kp.of QD).trans hkn
  have afW : V.heap.size ≤ ZM.heap.size := aa7.size
  clear hkn
  go_wp2_with fail
  refine wpAny_take (i := 7) (v := ?v39) rfl (by kernel_rfl) (by kernel_rfl) (by kernel_rfl) (fun _ _ _ h => h) (Or.inl ⟨by rfl, ?y39⟩) ?r39
  case y39 =>
   intro w
   go_simp
   all_goals with_reducible rfl
  refine ag (i := 8) (by kernel_rfl) rfl (fun K hK => ?_)
  go_simp
  refine hK _ _ ?_
  clear hK K
  obtain ⟨x23, hx⟩ := au (ZM.alloc (.cells #[.int .i64 0, .int .i64 0, .string ⟨#[]⟩, .int .i64 0, .int .i64 0, .string ⟨#[]⟩, .slice none 0 0, .slice none 0 0] 27 (0, 0)))
  have Y6 : ZB x23 ZM.heap.size := by rw [hx]; exact af.new ZM _ _
  have aa8 : Kp g V x23 := by rw [hx]; exact aa7.alloc _
  have aec : dQ x23 g s ((RM.at_ r').CX s.size) := by rw [hx]; exact aeb.alloc _
  have afX : V.heap.size ≤ x23.heap.size := aa8.size
  rw [← hx]
  clear hx
  obtain ⟨iW, P5, qc1, P6, qc2, P7, qc3, P8, qc4, P9, qc5, Qa, qc6, Qb, N8, Qc⟩ := af.z8 Y6
  refine ag (i := 9) (by kernel_rfl) rfl (fun K hK => ?_)
  go_simp
  refine hK _ _ ?_
  clear hK K
  refine wpAny_done (by kernel_rfl) ?_ _
  try go_wp2_with fail
  go_meet
  rw [Ep.out]
  exact ⟨ZM.heap.size, by rfl, qh (iy Y6 _ _ _ _ _ _ _ _), qh (dQ.dU aec (by omega) _ _ _ _ _ _ _ _), qh (fF aa8 (by omega) _ _ _ _ _ _ _ _), by omega, by rw [df]; exact Y6.lt⟩
  refine AllReady.cons rfl (fun K hK => ?_) AllReady.nil
  go_simp
  refine hK _ _ ?_
  clear hK K
  obtain ⟨x25, hx⟩ := au (ZL.alloc (.cells #[.int .i64 0, .int .i64 0, .string ⟨#[]⟩, .int .i64 0, .int .i64 0, .string ⟨#[]⟩, .slice none 0 0, .slice none 0 0] 27 (0, 0)))
  have aed : ZB x25 ZL.heap.size := by rw [hx]; exact af.new ZL _ _
  have hy25 : Below V.heap.size V x25 := by rw [hx]; exact QD.alloc QD.size _
  have afY : V.heap.size ≤ x25.heap.size := hy25.size
  have ah3 : x25.cell? ⟨w1.heap.size, 0, none⟩ = some (.string v) := Below.cell_of hy25 Ht
  rw [← hx]
  clear hx
  refine ag (i := 6) (by kernel_rfl) rfl (fun K hK => ?_)
  go_simp
  go_wp2_with fail
  refine (iJ (J6.out.below hy25) (HM.out.kp (zI.out.trans (Kp.of hy25))).all.2.2.2).mono ?_
  rw [vX.out]
  rintro e x26 ⟨rfl, aee, hkn⟩
  have aa9 : Kp g V x26 := (Kp.of hy25).trans hkn
  have af0 : V.heap.size ≤ x26.heap.size := aa9.size
  have Y7 := aed.kp hkn (by omega)
  clear hkn
  go_wp2_with fail
  refine wpAny_take (i := 7) (v := ?v40) rfl (by kernel_rfl) (by kernel_rfl) (by kernel_rfl) (fun _ _ _ h => h) (Or.inl ⟨by rfl, ?y40⟩) ?r40
  case y40 =>
   intro w
   go_simp
   all_goals with_reducible rfl
  obtain ⟨iW, P5, qc1, P6, qc2, P7, qc3, P8, qc4, P9, qc5, Qa, qc6, Qb, N8, Qc⟩ := af.z8 Y7
  refine ag (i := 9) (by kernel_rfl) rfl (fun K hK => ?_)
  go_simp
  refine hK _ _ ?_
  clear hK K
  refine wpAny_done (by kernel_rfl) ?_ _
  try go_wp2_with fail
  go_meet
  rw [Ep.out]
  exact ⟨ZL.heap.size, by rfl, qh (iy Y7 _ _ _ _ _ _ _ _), qh (dQ.dU aee (by omega) _ _ _ _ _ _ _ _), qh (fF aa9 (by omega) _ _ _ _ _ _ _ _), by omega, by rw [df]; exact Y7.lt⟩
  refine AllReady.cons rfl (fun K hK => ?_) AllReady.nil
  go_simp
  refine hK _ _ ?_
  clear hK K
  obtain ⟨x28, hx⟩ := au (x20.alloc (.cells #[.int .i64 0, .int .i64 0, .string ⟨#[]⟩, .int .i64 0, .int .i64 0, .string ⟨#[]⟩, .slice none 0 0, .slice none 0 0] 27 (0, 0)))
  have aef : ZB x28 x20.heap.size := by rw [hx]; exact af.new x20 _ _
  have hy28 : Below V.heap.size V x28 := by rw [hx]; exact UR.alloc UR.size _
  have af1 : V.heap.size ≤ x28.heap.size := hy28.size
  have ah5 : x28.cell? ⟨w1.heap.size, 0, none⟩ = some (.string v) := Below.cell_of hy28 Ht
  have aba := qh (show ∀ j, j < bY.length → x28.cell? ⟨fb, 0 + j, none⟩ = some (.string ((mD bY).getD j ByteArray.empty)) by rw [hx]; exact fun j hj => Below.cell_of ((Below.refl _ _).alloc (Nat.le_refl _) _) (XZ.out j hj))
  rw [← hx]
  clear hx
  refine ag (i := 3) (by kernel_rfl) rfl (fun K hK => ?_)
  go_simp
  go_wp2_with fail
  refine (Oc.out fb fc x28 aba.out).mono ?_
  rintro e x29 ⟨rfl, hx⟩
  have hy29 : Below V.heap.size V x29 := by rw [← hx]; exact hy28
  have af2 : V.heap.size ≤ x29.heap.size := hy29.size
  have aeg : ZB x29 x20.heap.size := by rw [← hx]; exact aef
  clear hx
  go_wp2_with fail
  refine wpAny_take (i := 4) (v := ?v41) rfl (by kernel_rfl) (by kernel_rfl) (by kernel_rfl) (fun _ _ _ h => h) (Or.inl ⟨by rfl, ?y41⟩) ?r41
  case y41 =>
   intro w
   go_simp
   all_goals with_reducible rfl
  refine ag (i := 6) (by kernel_rfl) rfl (fun K hK => ?_)
  go_simp
  go_wp2_with fail
  refine (iJ (J6.out.below hy29) (HM.out.kp (zI.out.trans (Kp.of hy29))).all.2.2.2).mono ?_
  rw [vX.out]
  rintro e x30 ⟨rfl, aeh, hkn⟩
  have abb : Kp g V x30 := (Kp.of hy29).trans hkn
  have af4 : V.heap.size ≤ x30.heap.size := abb.size
  have Y8 := aeg.kp hkn (by omega)
  clear hkn
  go_wp2_with fail
  refine wpAny_take (i := 7) (v := ?v42) rfl (by kernel_rfl) (by kernel_rfl) (by kernel_rfl) (fun _ _ _ h => h) (Or.inl ⟨by rfl, ?y42⟩) ?r42
  case y42 =>
   intro w
   go_simp
   all_goals with_reducible rfl
  obtain ⟨iW, P5, qc1, P6, qc2, P7, qc3, P8, qc4, P9, qc5, Qa, qc6, Qb, N8, Qc⟩ := af.z8 Y8
  refine ag (i := 9) (by kernel_rfl) rfl (fun K hK => ?_)
  go_simp
  refine hK _ _ ?_
  clear hK K
  refine wpAny_done (by kernel_rfl) ?_ _
  try go_wp2_with fail
  go_meet
  rw [Ep.out]
  exact ⟨x20.heap.size, by rfl, qh (iy Y8 _ _ _ _ _ _ _ _), qh (dQ.dU aeh (by omega) _ _ _ _ _ _ _ _), qh (fF abb (by omega) _ _ _ _ _ _ _ _), by omega, by rw [df]; exact Y8.lt⟩
  refine AllReady.cons rfl (fun K hK => ?_) AllReady.nil
  go_simp
  refine hK _ _ ?_
  clear hK K
  obtain ⟨x32, hx⟩ := au (x19.alloc (.cells #[.int .i64 0, .int .i64 0, .string ⟨#[]⟩, .int .i64 0, .int .i64 0, .string ⟨#[]⟩, .slice none 0 0, .slice none 0 0] 27 (0, 0)))
  have abd : ZB x32 x19.heap.size := by rw [hx]; exact af.new x19 _ _
  have hy32 : Below V.heap.size V x32 := by rw [hx]; exact MZ.alloc MZ.size _
  have af5 : V.heap.size ≤ x32.heap.size := hy32.size
  have ah8 : x32.cell? ⟨w1.heap.size, 0, none⟩ = some (.string v) := Below.cell_of hy32 Ht
  rw [← hx]
  clear hx
  refine ag (i := 0) (by kernel_rfl) rfl (fun K hK => ?_)
  go_simp
  go_wp2_with fail
  refine (fC ⟨#[115, 117, 109, 32, 99, 111, 117, 110, 116, 32, 97, 110, 121, 32, 97, 108, 108, 32, 108, 101, 97, 115, 116, 32, 109, 111, 115, 116]⟩ bY x32 (bD MX.out hy32) (by decide +kernel) (by decide +kernel) jA).mono ?_
  rintro e x33 ⟨fb, fc, rfl, hfc, hfl, hx⟩
  have Y9 : Below V.heap.size V x33 := hy32.trans (hx.mono hy32.size)
  have ah9 : x33.cell? ⟨w1.heap.size, 0, none⟩ = some (.string v) := Below.cell_of Y9 Ht
  have af6 : V.heap.size ≤ x33.heap.size := Y9.size
  have abe := qh hfc
  have aei := abd.below hx abd.lt
  clear hfc hx
  go_wp2_with fail
  refine ag (i := 3) (by kernel_rfl) rfl (fun K hK => ?_)
  go_simp
  go_wp2_with fail
  refine (Oc.out fb fc x33 abe.out).mono ?_
  rintro e x34 ⟨rfl, hx⟩
  have hy34 : Below V.heap.size V x34 := by rw [← hx]; exact Y9
  have af7 : V.heap.size ≤ x34.heap.size := hy34.size
  have aej : ZB x34 x19.heap.size := by rw [← hx]; exact aei
  clear hx
  go_wp2_with fail
  refine wpAny_take (i := 4) (v := ?v43) rfl (by kernel_rfl) (by kernel_rfl) (by kernel_rfl) (fun _ _ _ h => h) (Or.inl ⟨by rfl, ?y43⟩) ?r43
  case y43 =>
   intro w
   go_simp
   all_goals with_reducible rfl
  refine ag (i := 6) (by kernel_rfl) rfl (fun K hK => ?_)
  go_simp
  go_wp2_with fail
  refine (iJ (J6.out.below hy34) (HM.out.kp (zI.out.trans (Kp.of hy34))).all.2.2.2).mono ?_
  rw [vX.out]
  rintro e x35 ⟨rfl, aek, hkn⟩
  have abf : Kp g V x35 := (Kp.of hy34).trans hkn
  have af9 : V.heap.size ≤ x35.heap.size := abf.size
  have Za := aej.kp hkn (by omega)
  clear hkn
  go_wp2_with fail
  refine wpAny_take (i := 7) (v := ?v44) rfl (by kernel_rfl) (by kernel_rfl) (by kernel_rfl) (fun _ _ _ h => h) (Or.inl ⟨by rfl, ?y44⟩) ?r44
  case y44 =>
   intro w
   go_simp
   all_goals with_reducible rfl
  obtain ⟨iW, P5, qc1, P6, qc2, P7, qc3, P8, qc4, P9, qc5, Qa, qc6, Qb, N8, Qc⟩ := af.z8 Za
  refine ag (i := 9) (by kernel_rfl) rfl (fun K hK => ?_)
  go_simp
  refine hK _ _ ?_
  clear hK K
  refine wpAny_done (by kernel_rfl) ?_ _
  try go_wp2_with fail
  go_meet
  rw [Ep.out]
  exact ⟨x19.heap.size, by rfl, qh (iy Za _ _ _ _ _ _ _ _), qh (dQ.dU aek (by omega) _ _ _ _ _ _ _ _), qh (fF abf (by omega) _ _ _ _ _ _ _ _), by omega, by rw [df]; exact Za.lt⟩
  refine AllReady.cons rfl (fun K hK => ?_) AllReady.nil
  go_simp
  refine hK _ _ ?_
  clear hK K
  obtain ⟨ZN, hx⟩ := au (x0.alloc (.cells #[.int .i64 0, .int .i64 0, .string ⟨#[]⟩, .int .i64 0, .int .i64 0, .string ⟨#[]⟩, .slice none 0 0, .slice none 0 0] 27 (0, 0)))
  have Zb : ZB ZN x0.heap.size := by rw [hx]; exact af.new x0 _ _
  have QE : Below V.heap.size V ZN := by rw [hx]; exact hy0.alloc hy0.size _
  have aga : V.heap.size ≤ ZN.heap.size := QE.size
  have aic : ZN.cell? ⟨w1.heap.size, 0, none⟩ = some (.string v) := Below.cell_of QE Ht
  rw [← hx]
  clear hx
  refine wpAny_ready (rs := [0, 2]) (by kernel_rfl) (by simp) ?_
  refine AllReady.cons rfl (fun K hK => ?_) ?_
  go_simp
  go_wp2_with fail
  refine (fC ⟨#[115, 117, 109, 32, 99, 111, 117, 110, 116, 32, 97, 110, 121, 32, 97, 108, 108, 32, 108, 101, 97, 115, 116, 32, 109, 111, 115, 116]⟩ bY ZN (bD MX.out QE) (by decide +kernel) (by decide +kernel) jA).mono ?_
  rintro e x38 ⟨fb, fc, rfl, hfc, hfl, hx⟩
  have hy38 : Below V.heap.size V x38 := QE.trans (hx.mono QE.size)
  have aid : x38.cell? ⟨w1.heap.size, 0, none⟩ = some (.string v) := Below.cell_of hy38 Ht
  have agb : V.heap.size ≤ x38.heap.size := hy38.size
  have abg := qh hfc
  have ael := Zb.below hx Zb.lt
  clear hfc hx
  go_wp2_with fail
  refine ag (i := 2) (by kernel_rfl) rfl (fun K hK => ?_)
  go_simp
  refine hK _ _ ?_
  clear hK K
  obtain ⟨x39, hx⟩ := au (x38)
  have hy39 : Below V.heap.size V x39 := by rw [hx]; exact hy38
  have agc : V.heap.size ≤ x39.heap.size := hy39.size
  have aie : x39.cell? ⟨w1.heap.size, 0, none⟩ = some (.string v) := Below.cell_of hy39 Ht
  have aem : ZB x39 x0.heap.size := by rw [hx]; exact ael
  have abh := qh (show ∀ j, j < bY.length → x39.cell? ⟨fb, 0 + j, none⟩ = some (.string ((mD bY).getD j ByteArray.empty)) by rw [hx]; exact abg.out)
  rw [← hx]
  clear hx
  refine ag (i := 3) (by kernel_rfl) rfl (fun K hK => ?_)
  go_simp
  go_wp2_with fail
  refine (Oc.out fb fc x39 abh.out).mono ?_
  rintro e x40 ⟨rfl, hx⟩
  have Xi : Below V.heap.size V x40 := by rw [← hx]; exact hy39
  have agd : V.heap.size ≤ x40.heap.size := Xi.size
  have aen : ZB x40 x0.heap.size := by rw [← hx]; exact aem
  clear hx
  go_wp2_with fail
  refine wpAny_take (i := 4) (v := ?v45) rfl (by kernel_rfl) (by kernel_rfl) (by kernel_rfl) (fun _ _ _ h => h) (Or.inl ⟨by rfl, ?y45⟩) ?r45
  case y45 =>
   intro w
   go_simp
   all_goals with_reducible rfl
  refine ag (i := 6) (by kernel_rfl) rfl (fun K hK => ?_)
  go_simp
  go_wp2_with fail
  refine (iJ (J6.out.below Xi) (HM.out.kp (zI.out.trans (Kp.of Xi))).all.2.2.2).mono ?_
  rw [vX.out]
  rintro e x41 ⟨rfl, aeo, hkn⟩
  have abj : Kp g V x41 := (Kp.of Xi).trans hkn
  have age : V.heap.size ≤ x41.heap.size := abj.size
  have Zc := aen.kp hkn (by omega)
  clear hkn
  go_wp2_with fail
  refine wpAny_take (i := 7) (v := ?v46) rfl (by kernel_rfl) (by kernel_rfl) (by kernel_rfl) (fun _ _ _ h => h) (Or.inl ⟨by rfl, ?y46⟩) ?r46
  case y46 =>
   intro w
   go_simp
   all_goals with_reducible rfl
  obtain ⟨iW, P5, qc1, P6, qc2, P7, qc3, P8, qc4, P9, qc5, Qa, qc6, Qb, N8, Qc⟩ := af.z8 Zc
  refine ag (i := 9) (by kernel_rfl) rfl (fun K hK => ?_)
  go_simp
  refine hK _ _ ?_
  clear hK K
  refine wpAny_done (by kernel_rfl) ?_ _
  try go_wp2_with fail
  go_meet
  rw [Ep.out]
  exact ⟨x0.heap.size, by rfl, qh (iy Zc _ _ _ _ _ _ _ _), qh (dQ.dU aeo (by omega) _ _ _ _ _ _ _ _), qh (fF abj (by omega) _ _ _ _ _ _ _ _), by omega, by rw [df]; exact Zc.lt⟩
  refine AllReady.cons rfl (fun K hK => ?_) AllReady.nil
  go_simp
  refine hK _ _ ?_
  clear hK K
  obtain ⟨x43, hx⟩ := au (ZN)
  have UT : Below V.heap.size V x43 := by rw [hx]; exact QE
  have agf : V.heap.size ≤ x43.heap.size := UT.size
  have aii : x43.cell? ⟨w1.heap.size, 0, none⟩ = some (.string v) := Below.cell_of UT Ht
  have abk : ZB x43 x0.heap.size := by rw [hx]; exact Zb
  rw [← hx]
  clear hx
  refine ag (i := 0) (by kernel_rfl) rfl (fun K hK => ?_)
  go_simp
  go_wp2_with fail
  refine (fC ⟨#[115, 117, 109, 32, 99, 111, 117, 110, 116, 32, 97, 110, 121, 32, 97, 108, 108, 32, 108, 101, 97, 115, 116, 32, 109, 111, 115, 116]⟩ bY x43 (bD MX.out UT) (by decide +kernel) (by decide +kernel) jA).mono ?_
  rintro e x44 ⟨fb, fc, rfl, hfc, hfl, hx⟩
  have Zd : Below V.heap.size V x44 := UT.trans (hx.mono UT.size)
  have aij : x44.cell? ⟨w1.heap.size, 0, none⟩ = some (.string v) := Below.cell_of Zd Ht
  have agh : V.heap.size ≤ x44.heap.size := Zd.size
  have abl := qh hfc
  have aep := abk.below hx abk.lt
  clear hfc hx
  go_wp2_with fail
  refine ag (i := 3) (by kernel_rfl) rfl (fun K hK => ?_)
  go_simp
  go_wp2_with fail
  refine (Oc.out fb fc x44 abl.out).mono ?_
  rintro e x45 ⟨rfl, hx⟩
  have Xj : Below V.heap.size V x45 := by rw [← hx]; exact Zd
  have agi : V.heap.size ≤ x45.heap.size := Xj.size
  have aer : ZB x45 x0.heap.size := by rw [← hx]; exact aep
  clear hx
  go_wp2_with fail
  refine wpAny_take (i := 4) (v := ?v47) rfl (by kernel_rfl) (by kernel_rfl) (by kernel_rfl) (fun _ _ _ h => h) (Or.inl ⟨by rfl, ?y47⟩) ?r47
  case y47 =>
   intro w
   go_simp
   all_goals with_reducible rfl
  refine ag (i := 6) (by kernel_rfl) rfl (fun K hK => ?_)
  go_simp
  go_wp2_with fail
  refine (iJ (J6.out.below Xj) (HM.out.kp (zI.out.trans (Kp.of Xj))).all.2.2.2).mono ?_
  rw [vX.out]
  rintro e x46 ⟨rfl, aes, hkn⟩
  have abm : Kp g V x46 := (Kp.of Xj).trans hkn
  have agk : V.heap.size ≤ x46.heap.size := abm.size
  have Ze := aer.kp hkn (by omega)
  clear hkn
  go_wp2_with fail
  refine wpAny_take (i := 7) (v := ?v48) rfl (by kernel_rfl) (by kernel_rfl) (by kernel_rfl) (fun _ _ _ h => h) (Or.inl ⟨by rfl, ?y48⟩) ?r48
  case y48 =>
   intro w
   go_simp
   all_goals with_reducible rfl
  obtain ⟨iW, P5, qc1, P6, qc2, P7, qc3, P8, qc4, P9, qc5, Qa, qc6, Qb, N8, Qc⟩ := af.z8 Ze
  refine ag (i := 9) (by kernel_rfl) rfl (fun K hK => ?_)
  go_simp
  refine hK _ _ ?_
  clear hK K
  refine wpAny_done (by kernel_rfl) ?_ _
  try go_wp2_with fail
  go_meet
  rw [Ep.out]
  exact ⟨x0.heap.size, by rfl, qh (iy Ze _ _ _ _ _ _ _ _), qh (dQ.dU aes (by omega) _ _ _ _ _ _ _ _), qh (fF abm (by omega) _ _ _ _ _ _ _ _), by omega, by rw [df]; exact Ze.lt⟩
 case rest =>
 obtain ⟨be, rfl, abn, Vu, Zf, aim, TG⟩ := hcut
 obtain ⟨w6, hw6⟩ := au (wc)
 rw [← hw6] at abn Vu Zf TG ⊢
 clear hw6
 have HK6 := qh (zI.out.trans Zf.out)
 have YT := qh (uj.out.kp Zf.out (by omega))
 have MP := qh (yR Vu.out [58])
 rw [show tb [58] = ⟨#[58]⟩ from rfl] at MP
 obtain ⟨st3, hst3⟩ := ae ((if ((RM.at_ r').CX s.size).is [58] = true then ((RM.at_ r').CX s.size).tl else .wr (((RM.at_ r').CX s.size).ref s.size)))
 have hl3 : st3.l.length ≤ r'.length := by
  rw [← hst3]
  have h1 : ((RM.at_ r').CX s.size).l.length ≤ r'.length := by
   unfold RM.CX
   split
   ·
    show r'.tail.length ≤ r'.length
    simp
   ·
    exact Nat.zero_le _
  split
  ·
   refine Nat.le_trans ?_ h1
   cases (RM.at_ r').CX s.size with
   | at_ l => show l.tail.length ≤ l.length; simp
   | wr k => exact Nat.le_refl _
  ·
   exact Nat.zero_le _
 rw [hst3] at MP
 have abo := qh (show R = (st3.P s.data.toList.length .or).bind fun es l2 => aN s.data.toList.length [41] l2 fun l3 => .ok [bP 5 (i + 1) nm es] l3 by
  rw [Hl.out, HOS.out, ← hst3]
  rfl)
 clear hst3
 go_wp2_with fail
 refine MP.out.mono ?_
 rintro e w7 ⟨rfl, hs7, hk7⟩
 have Xf := hk7.size
 have GZ := qh hs7
 have Vw := qh (HK6.out.trans hk7)
 have MV := qh (YT.out.kp hk7 (by omega))
 have aet := qh (abn.out.kp hk7 (by omega))
 obtain ⟨r2, hr2⟩ := ae (st3.P s.data.toList.length .or)
 have HC2 := qh (fun W' hp hm => hr2 ▸ HO.out st3 (by have := Y0.out; omega) g W' hp hm)
 rw [hr2] at abo
 clear hs7 hk7 hr2 hl3
 go_wp2_with fail
 refine (HC2.out w7 GZ.out (HM.out.kp Vw.out)).mono ?_
 rintro e w8 ⟨gu, gy, gz, gG, gI, gJ, gK, gQ, gU, gV, gW, gX, rfl, hs8, hk8, hx8⟩
 have aa2 := hk8.size
 have Zg := qh (MV.out.kp hk8 (by omega))
 have B8 := aet.out.kp hk8 (by omega)
 have Xc := qh hs8
 have Xd := qh hx8
 have Ip := qh (Vw.out.trans hk8)
 clear hs8 hx8 hk8
 have f7 : w8.cell? ⟨be, 7, none⟩ = some (.slice none 0 0) := B8.cell 7
 have ZJ : w8.frozen? ⟨be, 7, none⟩ = false := B8.frozen 7
 have ain : be ≠ w8.heap.size := by have := B8.lt; omega
 have f7' : (w8.alloc (.cells #[.int .i64 gu, .int .i64 gy, .string gz, .int .i64 gG, .int .i64 gI, .string gJ, .slice gK gQ gU, .slice gV gW gX] 27 (0, 0))).cell? ⟨be, 7, none⟩ = some (.slice none 0 0) := (B8.alloc (.cells #[.int .i64 gu, .int .i64 gy, .string gz, .int .i64 gG, .int .i64 gI, .string gJ, .slice gK gQ gU, .slice gV gW gX] 27 (0, 0))).cell 7
 have YU : (w8.alloc (.cells #[.int .i64 gu, .int .i64 gy, .string gz, .int .i64 gG, .int .i64 gI, .string gJ, .slice gK gQ gU, .slice gV gW gX] 27 (0, 0))).frozen? ⟨be, 7, none⟩ = false := (B8.alloc (.cells #[.int .i64 gu, .int .i64 gy, .string gz, .int .i64 gG, .int .i64 gI, .string gJ, .slice gK gQ gU, .slice gV gW gX] 27 (0, 0))).frozen 7
 go_upto_region 22 with (fail)
 obtain ⟨W8, Xk⟩ := au (w8.alloc (.cells #[.int .i64 gu, .int .i64 gy, .string gz, .int .i64 gG, .int .i64 gI, .string gJ, .slice gK gQ gU, .slice gV gW gX] 27 (0, 0)))
 rw [← Xk]
 obtain ⟨W9, dI⟩ := au (W8.setCell ⟨be, 7, none⟩ (.slice (some ⟨w8.heap.size, 0, none⟩) 1 1))
 rw [← dI]
 have agm : W8.heap.size = w8.heap.size + 1 := by rw [Xk]; simp
 have agn : W9.heap.size = W8.heap.size := by rw [dI]; simp [World.setCell]
 have xU : ∀ k, k ≠ be → W9.heap[k]? = W8.heap[k]? := fun k hk => by rw [dI]; exact Below.heap_setCell W8 ⟨be, 7, none⟩ _ k hk
 have Dc := qh (show dQ W9 g s (aX r2) by rw [dI, Xk]; exact (Xc.out.alloc _).pV (by omega) _ _)
 have Qp := qh (show Kp g w W9 by rw [dI, Xk]; exact (Ip.out.alloc _).pV (by omega) _ _)
 have aeu := qh (show ZB W9 w.heap.size by (try unfold ZB); unfold af; rw [xU _ (by omega), Xk]; exact Zg.out.alloc _)
 have aev := qh (show af W9 be 27 #[.int .i64 5, .int .i64 (i + 1), .string x, .int .i64 0, .int .i64 0, .string ⟨#[]⟩, .slice none 0 0, .slice (some ⟨w8.heap.size, 0, none⟩) 1 1] by
  rw [dI, Xk]
  have h1 := (B8.alloc (.cells #[.int .i64 gu, .int .i64 gy, .string gz, .int .i64 gG, .int .i64 gI, .string gJ, .slice gK gQ gU, .slice gV gW gX] 27 (0, 0))).kE 7 (.slice (some ⟨w8.heap.size, 0, none⟩) 1 1)
  simpa using h1)
 have HX9 := qh (show RX (fun b => W.heap.size ≤ b ∧ b ≠ be) W9 (r2.bind fun es l => .ok [bP 5 (i + 1) nm es] l) [.int .i64 5, .int .i64 (i + 1), .string x, .int .i64 0, .int .i64 0, .string ⟨#[]⟩, .slice none 0 0, .slice (some ⟨w8.heap.size, 0, none⟩) 1 1] by
  intro es l e
  cases hr2 : r2 with
  | err k => rw [hr2] at e; cases e
  | ok es0 l0 =>
   rw [hr2] at e
   injection e with e1 e2
   obtain ⟨y, hy1, hy2⟩ := Xd.out es0 l0 hr2
   subst hy1
   obtain ⟨KW, c1', A2', c2', hcs⟩ := rE hy2
   have hlen := uN hy2
   refine ⟨_, e1.symm, ?_⟩
   have h1 := (hy2.imp (q := fun b => W.heap.size ≤ b ∧ b ≠ be) (fun k hk hl => ⟨by omega, by omega⟩)).keep (w' := W8) (dG.of (by rw [Xk]; exact (Below.refl _ _).alloc (Nat.le_refl _) _))
   have h2 := h1.up (B' := W8.heap.size) (by omega)
   have h3 := pg (w := W8) (B := w8.heap.size) (A := some ⟨w8.heap.size, 0, none⟩) (c := 1) 5 (i + 1) nm (by have := Ic.out; unfold maxLen; omega) (iw.one h2) (fun k hk => ⟨by omega, by omega⟩) (by
    have h4 : W8.ownsRow w8.heap.size 27 8 (.slice (some ⟨w8.heap.size, 0, none⟩) 1 1) 1 [.int .i64 gu, .int .i64 gy, .string gz, .int .i64 gG, .int .i64 gI, .string gJ, .slice gK gQ gU, .slice gV gW gX] := by rw [Xk]; exact qB (af.new w8 _ _) (Nat.le_refl _) rfl
    simpa using h4) (show 1 ≤ maxLen by decide)
   have h5 := (h3.keep (w' := W9) ⟨by omega, fun k hk _ => xU k hk.2⟩).up (B' := W9.heap.size) (by omega)
   have e6 : ai (bP 5 (i + 1) nm [y]) none 0 (some ⟨w8.heap.size, 0, none⟩) 1 = [.int .i64 5, .int .i64 (i + 1), .string x, .int .i64 0, .int .i64 0, .string ⟨#[]⟩, .slice none 0 0, .slice (some ⟨w8.heap.size, 0, none⟩) 1 1] := by
    rw [← HX.out]; rfl
   rw [← e6]
   exact h5)
 clear Xk dI f7 ZJ f7' YU
 have HWB := qh (yR Dc.out [41])
 rw [show tb [41] = ⟨#[41]⟩ from rfl] at HWB
 go_wp2_with fail
 refine HWB.out.mono ?_
 rintro e w10 ⟨rfl, hs10, hk10⟩
 have B10 := aev.out.kp hk10 (by omega)
 have aex := aeu.out.kp hk10 (by omega)
 have aey := qh hs10
 have abr := qh hk10
 clear hs10 hk10
 obtain ⟨CJ, CO, Ea, Eb, Ec, Ed, Ee, Ef⟩ := af.c8 B10
 obtain ⟨aQ, eX, aS, eY, aT, fD, aU, fE, aY, jR, aZ, jS, bu, jT, bz, jU⟩ := af.z8 aex
 go_wp2_with fail
 refine bodyPost_ret (v := .agg #[.int .i64 5, .int .i64 (i + 1), .string x, .int .i64 0, .int .i64 0, .string ⟨#[]⟩, .slice none 0 0, .slice (some ⟨w8.heap.size, 0, none⟩) 1 1]) (by simp [results, Tryz.results162, go_sem, aQ, aS, aT, aU, aY, aZ, bu, bz]) rfl ⟨5, i + 1, x, 0, 0, ⟨#[]⟩, none, 0, 0, some ⟨w8.heap.size, 0, none⟩, 1, 1, rfl, ?_⟩
 rw [abo.out]
 have Dw : (r2.bind fun es l2 => aN s.data.toList.length [41] l2 fun l3 => .ok [bP 5 (i + 1) nm es] l3) = ((r2.bind fun es l => .ok [bP 5 (i + 1) nm es] l).bind fun es l => aN s.data.toList.length [41] l fun l2 => .ok es l2) := by cases r2 <;> rfl
 refine RR.ret (L := W.heap.size) ?_ (Qp.out.trans abr.out) ?_ hWs hlt _ _ _ _ _ _ _ _
 ·
  rw [zU (f := fun es => [bP 5 (i + 1) nm es]) (by decide) (by decide)]
  exact aey.out
 ·
  rw [Dw]
  exact ((HX9.out.imp (fun k hk _ => hk.1)).kp abr.out (fun k hk => by omega)).Oj
end Go.Proofs.YtobanldeicclmaaGreatDoor
