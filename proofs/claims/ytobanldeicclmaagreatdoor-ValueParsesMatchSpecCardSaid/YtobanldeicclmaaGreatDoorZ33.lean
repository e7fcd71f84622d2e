/- Lemmas for the claim: walks and plain laws. -/
import Derived.Test.YtobanldeicclmaaGreatDoorZ32
import Derived.Test.YtobanldeicclmaaGreatDoorZ29
import Derived.Test.YtobanldeicclmaaGreatDoorZ6
set_option maxHeartbeats 8000000
set_option maxRecDepth 100000
namespace Go.Proofs.YtobanldeicclmaaGreatDoor
open Go.RowKit Vtx
attribute [local go_sem ↓] Go.wp_at_zero Go.wp_at_succ
theorem abw (x : List UInt8) : gm x = 0 ∨ (1 ≤ gm x ∧ gm x ≤ 39) := by
 unfold gm
 cases h : uA.find? (fun p => decide (p.2 = x)) with
 | none => exact .inl rfl
 | some p =>
  have h1 := List.mem_of_find?_eq_some h
  have h2 : ∀ p ∈ uA, 1 ≤ p.1 ∧ p.1 ≤ 39 := by decide +kernel
  exact .inr (h2 p h1)
theorem UX (s : ByteArray) (t : Tok) (r : List Tok) (hn : nameB (bH t) = true) (hcl : (RM.at_ (t :: r)).cl = true) (hov : cZ (bH t) = 0) (hop : gm (bH t) ≠ 0) (hz : s.size ≤ 4000) (hO : ∀ st' : RM, st'.l.length < (t :: r).length → X4 (gm (bH t)) s st') : MS 162 .az s (.at_ (t :: r)) := by
 intro g w hp hm
 have hlt := hp.lt
 have HM := qh hm
 have qf := qh hp
 obtain ⟨i, hi, hL⟩ := hp.2
 have Uy := qh hL.symm
 have hbd := jV hL
 have h0 := jy (s := s) (i := i) t r hL.symm
 obtain ⟨v, hv⟩ := ae (tb (bH t))
 obtain ⟨a, ha⟩ := ae (t.at_)
 have zx := qh (show tb ((RM.at_ (t :: r)).pk s.size).1 = v from hv)
 have jD := qh (show ((RM.at_ (t :: r)).pk s.size).2 = a from ha)
 have HAT := qh (show a = (RM.at_ (t :: r)).ref s.size from ha.symm)
 have HV := qh hv
 have vT := qh (show v.data.toList = bH t by rw [← hv, bT])
 have hvs : v.size ≤ 4001 := by rw [← hv, dm]; omega
 have hem := kM hv h0
 obtain ⟨hu0, -⟩ := jJ hv h0
 have hnf := lN hn
 have hmo := rJ hn
 have GM := qh hnf.2.2.2
 have wU := qh hmo.2
 have YF := qh hn
 have hb : bH t ≠ [40] := hnf.2.1
 have yX := qh (show (RM.at_ (t :: r)).is [40] = false from decide_eq_false hb)
 have G6 : v.data.toList = bH t := vT.out
 have qN := qh (fun W hW => jk v W hW)
 rw [G6, hmo.1] at qN
 have HZ := qh hz
 obtain ⟨R, hR⟩ := ae ((RM.at_ (t :: r)).P s.data.toList.length .az)
 have Xe := qh (nP (t := t) rfl hnf.1)
 rw [hR]
 have HO := qh hO
 obtain ⟨u, r', MN⟩ : ∃ u r', r = u :: r' := by
  cases r with
  | nil => cases hcl
  | cons u r' => exact ⟨u, r', rfl⟩
 have HRU := qh MN
 have Y0 := qh (show r'.length + 2 ≤ (t :: r).length by rw [MN]; simp)
 have hrw : bH t ≠ pI := fun e => hop (by rw [e]; decide)
 have YX : (v.toList == [114, 111, 119]) = false := by rw [ByteArray.toList_eq, vT.out, beq_eq_false_iff_ne]; exact hrw
 have hcon : Lib.containsS (mD bY) v = false := by
  rw [← hv]
  exact (G5 (bH t)).trans (by rw [hov]; rfl)
 have UO := qh (fun b c W => qM bY (bH t) b c W (by decide))
 rw [hv, hcon] at UO
 have ZK := qh (fun W hW => JH (bH t) W hW)
 obtain ⟨o, ho⟩ := ae (gm (bH t))
 rw [hv, ho] at ZK
 rw [ho] at hop HO
 have bo : (o != 0) = true := by simpa using hop
 have bo2 : (o == 0) = false := by simpa using hop
 have Hl := qh (show R = FK s.data.toList.length o (.at_ r') from hR.symm.trans ((WQ hn (by rw [← rG hL.symm Xe.out.1]; exact hcl) hov ho hop).trans (by rw [MN]; rfl)))
 have Hq := qh hcl
 have hn0 := mF GM.out
 obtain ⟨c0, y0, hcy, hlc⟩ := hn0
 have uX := nS hv hcy
 obtain ⟨_, uX⟩ := uX
 have Di : ¬ ((v[0].toNat : Nat) : Int) < 97 := by rw [uX]; have := hlc; unfold dE at this; simp at this; omega
 have uY : ¬ 122 < ((v[0].toNat : Nat) : Int) := by rw [uX]; have := hlc; unfold dE at this; simp at this; omega
 have d1 : decide (((v[0].toNat : Nat) : Int) < 97) = false := by simpa using Di
 have d2 : decide (122 < ((v[0].toNat : Nat) : Int)) = false := by simpa using uY
 have b1 : (v.toList == [116, 114, 117, 101]) = false := by rw [ByteArray.toList_eq, vT.out, beq_eq_false_iff_ne]; exact wU.out.1
 have b2 : (v.toList == [102, 97, 108, 115, 101]) = false := by rw [ByteArray.toList_eq, vT.out, beq_eq_false_iff_ne]; exact wU.out.2
 clear hcy hlc uX
 clear hp hm hR hv ha hL hb h0 hnf hmo hn G6 hz hcl hov hop hrw hcon MN hO ho
 go_enter Tryz.func162, Tryz.ntmps162
 go_upto_region 1 with (fail)
 obtain ⟨W, hW, hkW, fV, hszW, hWs, -⟩ := iV g w
 have ny := qh (show dQ W g s (.at_ (t :: r)) by rw [hW]; exact qf.out.alloc _)
 have oZ := qh (HM.out.kp hkW)
 rw [← hW]
 clear hW
 have kY := qh (kX ny.out)
 rw [zx.out, jD.out] at kY
 go_upto_region 2 with (go_at_call 17; (with_reducible refine kY.out.mono ?_); rintro e w1 ⟨rfl, hb1⟩)
 obtain ⟨W1, hW1⟩ := au (w1.alloc (.cells #[.string v, .int .i64 (a : Nat)] 48 (0, 0)))
 have hbW : Below W.heap.size W W1 := by rw [hW1]; exact hb1.alloc hb1.size _
 have BT : af W1 w1.heap.size 48 #[.string v, .int .i64 (a : Nat)] := by rw [hW1]; exact af.new w1 _ _
 have hsW : W.heap.size ≤ w1.heap.size := hb1.size
 rw [← hW1]
 clear hW1 hb1
 have mW := qh (hkW.trans (Kp.of hbW))
 have qc := qh (ny.out.below hbW)
 have eG := qh (fV.out.below hbW fV.out.lt)
 obtain ⟨kD, nz⟩ := af.c2 BT
 have C9 : W.heap.size ≤ W1.heap.size := hbW.size
 have yh := qh (wH qc.out yX.out)
 rw [show tb [40] = ⟨#[40]⟩ from rfl] at yh
 go_upto_region 8 with (go_at_call 37; (with_reducible refine yh.out.mono ?_); rintro e w2 ⟨rfl, rfl⟩)
 have Dj := qh (HM.out.kp mW.out).all.2.2.2
 go_wp2_with fail
 refine (qN.out W1 Dj.out).mono ?_
 rintro e w2 ⟨rfl, hb2⟩
 have HS2 := qh (qc.out.below hb2)
 have mG := qh (mW.out.trans (Kp.of hb2))
 have iC := qh (eG.out.below hb2 eG.out.lt)
 have qj := qh (BT.below hb2 BT.lt)
 have hsz2 := hb2.size
 clear kD nz BT
 obtain ⟨kD, nz⟩ := af.c2 qj.out
 have Ej := qh (fun W' (hb' : Below w2.heap.size w2 W') => oC (HS2.out.below hb') HZ.out)
 rw [Hq.out] at Ej
 go_upto_region 17 with (go_at_call 175; (with_reducible refine (Ej.out w2 (Below.refl _ _)).mono ?_); rintro e w4 ⟨rfl, hb4⟩; have HB4 := qh hb4; have YY : w4.cell? ⟨w1.heap.size, 0, none⟩ = some (.string v) := Below.cell_of hb4 kD; clear hb4)
 have hb4 := HB4.out
 have pX := qh (HS2.out.below hb4)
 have iK := qh (mG.out.trans (Kp.of hb4))
 have dL := qh (iC.out.below hb4 iC.out.lt)
 have xA := qh (qj.out.below hb4 qj.out.lt)
 have vW := hb4.size
 have MQ := qh (HM.out.kp iK.out).all.2.2.2
 have Dv := qh (fun W' (hb' : Below w4.heap.size w4 W') => Ej.out W' (hb4.trans (hb'.mono hb4.size)))
 clear kD nz YY hb4
 obtain ⟨kD, nz⟩ := af.c2 xA.out
 go_upto_region 17 with (fail)
 go_cut [76] (fun v wc => v = .bool false ∧ Below w4.heap.size w4 wc)
 case first =>
  refine wp_region_any (by kernel_rfl) ?_
  change wpAny _ _ _ _ _ _ _ (World.drew _)
  refine wpAny_take (i := 0) (v := ?v49) rfl (by kernel_rfl) (by kernel_rfl) (by kernel_rfl) (fun _ _ _ h => h) (Or.inl ⟨by rfl, ?y49⟩) ?r49
  case y49 =>
   intro w
   go_simp
   all_goals with_reducible rfl
  refine ag (i := 1) (by kernel_rfl) rfl (fun K hK => ?_)
  go_simp
  go_wp2_with fail
  refine (Dv.out _ (Below.refl _ _).drew).mono ?_
  rintro e x1 ⟨rfl, hx1⟩
  have hy1 : Below w4.heap.size w4 x1 := ((Below.refl _ w4).drew).trans hx1
  have Hr := qh (bD MQ.out hy1)
  have Fp : x1.cell? ⟨w1.heap.size, 0, none⟩ = some (.string v) := Below.cell_of hy1 kD
  go_wp2_with fail
  refine wpAny_take (i := 2) (v := ?v50) rfl (by kernel_rfl) (by kernel_rfl) (by kernel_rfl) (fun _ _ _ h => h) (Or.inl ⟨by rfl, ?y50⟩) ?r50
  case y50 =>
   intro w
   go_simp
   all_goals with_reducible rfl
  refine wpAny_take (i := 4) (v := ?v51) rfl (by kernel_rfl) (by kernel_rfl) (by kernel_rfl) (fun _ _ _ h => h) (Or.inl ⟨by rfl, ?y51⟩) ?r51
  case y51 =>
   intro w
   go_simp
   all_goals with_reducible rfl
  refine wpAny_ready (rs := [3, 5]) (by kernel_rfl) (by simp) ?_
  refine AllReady.cons rfl (fun K hK => ?_) ?_
  ·
   go_simp
   go_wp2_with fail
   refine (fC ⟨#[115, 117, 109, 32, 99, 111, 117, 110, 116, 32, 97, 110, 121, 32, 97, 108, 108, 32, 108, 101, 97, 115, 116, 32, 109, 111, 115, 116]⟩ bY _ Hr.out (by decide +kernel) (by decide +kernel) jA).mono ?_
   rintro e x2 ⟨fb, fc, rfl, hfc, hfl, hx2⟩
   have hy2 : Below w4.heap.size w4 x2 := hy1.trans (hx2.mono hy1.size)
   have DZ : x2.cell? ⟨w1.heap.size, 0, none⟩ = some (.string v) := Below.cell_of hy2 kD
   have UQ := qh hfc
   clear hfc
   go_wp2_with fail
   refine ag (i := 5) (by kernel_rfl) rfl (fun K hK => ?_)
   go_simp
   refine hK _ _ ?_
   clear hK K
   refine ag (i := 6) (by kernel_rfl) rfl (fun K hK => ?_)
   go_simp
   go_wp2_with fail
   refine (UO.out fb fc x2 UQ.out).mono ?_
   rintro e x3 ⟨rfl, rfl⟩
   go_wp2_with fail
   refine wpAny_take (i := 7) (v := ?v52) rfl (by kernel_rfl) (by kernel_rfl) (by kernel_rfl) (fun _ _ _ h => h) (Or.inl ⟨by rfl, ?y52⟩) ?r52
   case y52 =>
    intro w
    go_simp
    all_goals with_reducible rfl
   refine wpAny_take (i := 8) (v := ?v53) rfl (by kernel_rfl) (by kernel_rfl) (by kernel_rfl) (fun _ _ _ h => h) (Or.inl ⟨by rfl, ?y53⟩) ?r53
   case y53 =>
    intro w
    go_simp
    all_goals with_reducible rfl
   refine wpAny_done (by kernel_rfl) ?_ _
   try go_wp2_with fail
   go_meet
   exact ⟨by rfl, hy2⟩
  refine AllReady.cons rfl (fun K hK => ?_) AllReady.nil
  go_simp
  refine hK _ _ ?_
  clear hK K
  refine ag (i := 3) (by kernel_rfl) rfl (fun K hK => ?_)
  go_simp
  go_wp2_with fail
  refine (fC ⟨#[115, 117, 109, 32, 99, 111, 117, 110, 116, 32, 97, 110, 121, 32, 97, 108, 108, 32, 108, 101, 97, 115, 116, 32, 109, 111, 115, 116]⟩ bY _ Hr.out (by decide +kernel) (by decide +kernel) jA).mono ?_
  rintro e x2 ⟨fb, fc, rfl, hfc, hfl, hx2⟩
  have hy2 : Below w4.heap.size w4 x2 := hy1.trans (hx2.mono hy1.size)
  have DZ : x2.cell? ⟨w1.heap.size, 0, none⟩ = some (.string v) := Below.cell_of hy2 kD
  have UQ := qh hfc
  clear hfc
  go_wp2_with fail
  refine ag (i := 6) (by kernel_rfl) rfl (fun K hK => ?_)
  go_simp
  go_wp2_with fail
  refine (UO.out fb fc x2 UQ.out).mono ?_
  rintro e x3 ⟨rfl, rfl⟩
  go_wp2_with fail
  refine wpAny_take (i := 7) (v := ?v54) rfl (by kernel_rfl) (by kernel_rfl) (by kernel_rfl) (fun _ _ _ h => h) (Or.inl ⟨by rfl, ?y54⟩) ?r54
  case y54 =>
   intro w
   go_simp
   all_goals with_reducible rfl
  refine wpAny_take (i := 8) (v := ?v55) rfl (by kernel_rfl) (by kernel_rfl) (by kernel_rfl) (fun _ _ _ h => h) (Or.inl ⟨by rfl, ?y55⟩) ?r55
  case y55 =>
   intro w
   go_simp
   all_goals with_reducible rfl
  refine wpAny_done (by kernel_rfl) ?_ _
  try go_wp2_with fail
  go_meet
  exact ⟨by rfl, hy2⟩
 case rest =>
 obtain ⟨rfl, hb5⟩ := hcut
 have Eh := qh (pX.out.below hb5)
 have rq := qh (iK.out.trans (Kp.of hb5))
 have oP := qh (dL.out.below hb5 dL.out.lt)
 have Es := qh (xA.out.below hb5 xA.out.lt)
 have hsz5 := hb5.size
 have UM := qh (HM.out.kp rq.out).all.2.2.2
 have QC := qh (fun W' (hb' : Below wc.heap.size wc W') => Dv.out W' (hb5.trans (hb'.mono hb5.size)))
 clear kD nz hb5
 obtain ⟨kD, nz⟩ := af.c2 Es.out
 have UN := QC
 go_upto_region 25 with (first
  | (go_at_call 175; (with_reducible refine (UN.out wc (Below.refl _ _)).mono ?_); rintro e w6 ⟨rfl, hb6⟩; have Io := qh hb6; have YZ := qh (bD UM.out hb6); have rf : w6.cell? ⟨w1.heap.size, 0, none⟩ = some (.string v) := Below.cell_of hb6 kD; clear hb6)
  | (go_at_call 177; (with_reducible refine (ZK.out w6 YZ.out).mono ?_); rintro e w7 ⟨rfl, hb7⟩; have BL := qh (Io.out.trans (hb7.mono Io.out.size)); clear hb7))
 have GZ := qh (Eh.out.below BL.out)
 have Vw := qh (rq.out.trans (Kp.of BL.out))
 have MV := qh (oP.out.below BL.out oP.out.lt)
 have aeJ := qh (Es.out.below BL.out Es.out.lt)
 have Xf := BL.out.size
 obtain ⟨ad, c, A2, c2, gc0, gz0, hsl, hst⟩ := Du (show dQ w7 g s (.at_ (t :: u :: r')) by rw [← HRU.out]; exact GZ.out)
 have HST := qh hst
 clear hst
 go_upto_region 26 with (fail)
 obtain ⟨V, hV⟩ := au (w7.setCell ⟨g, 0, none⟩ (.slice A2 r'.length c2))
 have J6 := qh (show dQ V g s (.at_ r') by rw [hV]; exact HST.out)
 have zI := qh (show Kp g w V by rw [hV]; exact Vw.out.set 0 _)
 have tH := qh (show Kp g w7 V by rw [hV]; exact (iR g _).set 0 _)
 have Vt : V.heap.size = w7.heap.size := by rw [hV]; simp [World.setCell]
 have uj := qh (MV.out.kp tH.out (by omega))
 have BTV := aeJ.out.kp tH.out (by omega)
 have Ht : V.cell? ⟨w1.heap.size, 0, none⟩ = some (.string v) := BTV.cell 0
 rw [← hV]
 clear hV HST kD nz BTV
 have MX := qh (HM.out.kp zI.out).all.2.2.2
 go_wp2_with fail
 refine (ZK.out V MX.out).mono ?_
 rintro e w8 ⟨rfl, hb8⟩
 have TK := qh hb8
 have aa2 := hb8.size
 have Xc := qh (J6.out.below hb8)
 have Ip := qh (zI.out.trans (Kp.of hb8))
 have Zg := qh (uj.out.below hb8 uj.out.lt)
 have HC2 := qh (HO.out (.at_ r') (by have := Y0.out; show r'.length < _; omega))
 clear hb8
 go_wp2_with fail
 refine (HC2.out g w8 Xc.out (HM.out.kp Ip.out)).mono ?_
 rintro e w9 ⟨gu, gy, gz, gG, gI, gJ, gK, gQ, gU, gV, gW, gX, rfl, hs9, hk9, hx9⟩
 have iq := Zg.out.kp hk9 (by omega)
 have Dc := qh hs9
 have Qp := qh hk9
 have HX9 := qh hx9
 clear hs9 hk9 hx9
 obtain ⟨aQ, eX, aS, eY, aT, fD, aU, fE, aY, jR, aZ, jS, bu, jT, bz, jU⟩ := af.z8 iq
 go_wp2_with fail
 refine bodyPost_ret (v := .agg #[.int .i64 gu, .int .i64 gy, .string gz, .int .i64 gG, .int .i64 gI, .string gJ, .slice gK gQ gU, .slice gV gW gX]) (by simp [results, Tryz.results162, go_sem, aQ, aS, aT, aU, aY, aZ, bu, bz]) rfl ⟨gu, gy, gz, gG, gI, gJ, gK, gQ, gU, gV, gW, gX, rfl, ?_⟩
 rw [Hl.out]
 exact RR.ret (L := W.heap.size) Dc.out (Ip.out.trans Qp.out) (HX9.out.imp (fun k hk _ => by omega)) hWs hlt _ _ _ _ _ _ _ _
theorem Et (s : ByteArray) (st : RM) (hz : s.size ≤ 4000) (hO : ∀ st' : RM, st'.l.length < st.l.length → MS 15 .or s st') : MS 162 .az s st := by
 by_cases h0 : (st.pk s.size).1 = []
 ·
  exact Qq s st h0
 ·
  obtain ⟨t, r, rfl, hx⟩ := RM.text rfl h0
  have hne : bH t ≠ [] := by rw [hx]; exact h0
  by_cases uk : bH t = [40]
  ·
   exact JY s t r uk hz hO
  ·
   obtain ⟨c, y, hcy⟩ : ∃ c y, bH t = c :: y := by
    cases h : bH t with
    | nil => exact absurd h hne
    | cons c y => exact ⟨c, y, rfl⟩
   by_cases hlo : dE c = true
   ·
    by_cases htf : bH t = iP ∨ bH t = dV
    ·
     exact FQ s t r uk (by rcases htf with h | h; exact .inl h; exact .inr (.inl h)) hz
    ·
     have aeK : bH t ≠ iP ∧ bH t ≠ dV := ⟨fun e => htf (.inl e), fun e => htf (.inr e)⟩
     cases hres : aB.contains (bH t) with
     | true => exact Dh s t r ⟨c, y, hcy, hlo⟩ aeK hres hz
     | false =>
      have hn : nameB (bH t) = true := by
       rw [hcy] at hres ⊢
       show (dE c && !aB.contains (c :: y)) = true
       rw [hres, hlo]
       rfl
      cases hcl : (RM.at_ (t :: r)).cl with
      | false => exact J7 s t r hn hcl hz
      | true =>
       by_cases hrow : bH t = pI
       ·
        exact QB s t r hrow hcl hz
       ·
        by_cases hov : cZ (bH t) = 0
        ·
         by_cases hop : gm (bH t) = 0
         ·
          exact J8 s t r hn hcl hov hop hrow hz
         ·
          have hbd : 1 ≤ gm (bH t) ∧ gm (bH t) ≤ 39 := by
           rcases abw (bH t) with h | h
           ·
            exact absurd h hop
           ·
            exact h
          exact UX s t r hn hcl hov hop hz (fun st' h' => Na s _ hbd.1 hbd.2 st' (fun st2 h2 => hO st2 (Nat.lt_of_le_of_lt h2 h')))
        ·
         exact MW s t r hn hcl hov hz hO
   ·
    exact FQ s t r uk (.inr (.inr ⟨c, y, hcy, by simpa using hlo⟩)) hz
theorem abx (s : ByteArray) (hz : s.size ≤ 4000) : ∀ (n : Nat) (st : RM), st.l.length ≤ n → MS 15 .or s st
 | n, st, hn => by
  have hO : ∀ st' : RM, st'.l.length < st.l.length → MS 15 .or s st' := fun st' h' => by
   cases n with
   | zero => omega
   | succ n => exact abx s hz n st' (by omega)
  have hP : ∀ st' : RM, st'.l.length ≤ st.l.length → MS 162 .az s st' := fun st' h' => Et s st' hz (fun st2 h2 => hO st2 (by omega))
  have hM : ∀ (m : Nat) (st' : RM), st'.l.length ≤ m → st'.l.length ≤ st.l.length → MS 152 .minus s st' := fun m => by
   induction m with
   | zero => exact fun st' h1 h2 => zJ s st' hz (fun st2 h3 => by omega) (hP st' h2)
   | succ m ih => exact fun st' h1 h2 => zJ s st' hz (fun st2 h3 => ih st2 (by omega) (by omega)) (hP st' h2)
  have hPr : ∀ st' : RM, st'.l.length ≤ st.l.length → MS 136 .product s st' := fun st' h' => Eg s st' (fun st2 h2 => hM _ st2 (Nat.le_refl _) (by omega))
  have hSu : ∀ st' : RM, st'.l.length ≤ st.l.length → MS 114 .sum s st' := fun st' h' => PX s st' (fun st2 h2 => hPr st2 (by omega))
  have hCm : ∀ st' : RM, st'.l.length ≤ st.l.length → MR 90 s st' (st'.C s.data.toList.length) := fun st' h' => yS s st' (fun st2 h2 => hSu st2 (by omega))
  have hNo : ∀ (m : Nat) (st' : RM), st'.l.length ≤ m → st'.l.length ≤ st.l.length → MS 60 .not s st' := fun m => by
   induction m with
   | zero => exact fun st' h1 h2 => FH s st' (fun st2 h3 => by omega) (hCm st' h2)
   | succ m ih => exact fun st' h1 h2 => FH s st' (fun st2 h3 => ih st2 (by omega) (by omega)) (hCm st' h2)
  have hAn : ∀ st' : RM, st'.l.length ≤ st.l.length → MS 36 .and s st' := fun st' h' => Qg s st' (fun st2 h2 => hNo _ st2 (Nat.le_refl _) (by omega))
  exact Um s st hAn
theorem Xl (g : Nat) (s : ByteArray) (i : Nat) (w : World) (hp : aP w g s i) (hm : TM w g) (t u : Tok) (r : List Tok) (hL : wordsOf s.data.toList i = t :: u :: r) (hu : u.tx = [40]) (ho : cZ t.tx = 0) (hq : gm t.tx ≠ 0) (hP : ∀ L', L'.length ≤ r.length → fK 31 .or s L') :
  Calls Tryz.prog 170 #[.pointer (some ⟨g, 0, none⟩), .string (tb t.tx)] w fun e w' => UB w g s (rH s.data.toList.length t.tx r) e w' := by
 have jD := qh hp
 have HM := qh hm
 have hlt := hp.b.lt
 have hs4 := hp.s
 have hw1 := dJ hL
 have hw2 := dJ hw1.2.symm
 obtain ⟨i1, hi1⟩ := ae (t.at_ + t.tx.length)
 obtain ⟨ea, et, eh⟩ := jX hw1.1
 have HI1 := qh (show aO s i + (aH s i).length = i1 by rw [ea, et, hi1])
 rw [hi1] at hw1 hw2
 have hfree := xN hw2.1 hu (by decide)
 have HWU := qh (show kU (wordsOf s.data.toList i1) [40] = true by rw [← hw1.2]; simp [kU, hfree, hu])
 obtain ⟨i2, hi2⟩ := ae (aO s i1 + (aH s i1).length)
 have HI2 := qh hi2
 have Ep := qh (show wordsOf s.data.toList i2 = r by
  obtain ⟨Vp, WX, -⟩ := jX hw2.1
  rw [← hi2, Vp, WX]; exact hw2.2.symm)
 obtain ⟨x, hx⟩ := ae (t.tx)
 obtain ⟨R, hR⟩ := ae (rH s.data.toList.length t.tx r)
 rw [hR]
 rw [hx] at hR ⊢
 obtain ⟨v, hv⟩ := ae (tb x)
 have HV := qh hv
 have JZ := qh (fun w' => hv ▸ tC x w')
 have J3 := qh (fun w' => hv ▸ xZ x w')
 have HRR := qh hR
 have xk := qh hP
 rw [hv]
 rw [hx] at ho hq
 clear hR hi1 hi2 ea et eh hw1 hw2 hfree hL hu hp hm hP
 obtain ⟨op, hop⟩ := ae (gm x)
 have aby := (YC x).1
 rw [hop] at hq aby
 have UD : (v.toList == (⟨#[114, 111, 119]⟩ : ByteArray).toList) = false := bZ (fun e => by
  have e2 : x = pI := by rw [← bT x, hv, e]; rfl
  subst e2
  exact hq (hop ▸ row_zero.2))
 have bs : (v.toList == [114, 111, 119]) = false := by simpa using UD
 clear UD
 have bo : (op == 0) = false := by simp [hq]
 have hgt : (0 : Int) < op := by omega
 have HRR := qh (show R = (Pz s.data.toList.length (.args op) [] r).bind fun es l1 => aN s.data.toList.length [41] l1 fun l2 => .ok [bQ op es] l2 by rw [← HRR.out]; unfold rH; rw [if_neg (fun h => h ho), hop, if_pos hq])
 have UE := qh ho
 have UF := qh hop
 clear ho hq aby hv hx hop
 go_enter Tryz.func170, Tryz.ntmps170
 go_upto_region 1 with (fail)
 obtain ⟨W, hW, hkW, BR, hszW, hWs, -⟩ := dY g w
 have iZ := qh (show aP W g s i by rw [hW]; exact jD.out.alloc _)
 have oZ := qh (HM.out.kp hkW)
 have fV := qh BR
 rw [← hW]
 clear hW BR
 go_wp2_with fail
 refine (JZ.out W).mono ?_
 rintro e wa ⟨rfl, hba⟩
 rw [UE.out]
 go_wp2_with fail
 refine (J3.out wa).mono ?_
 rintro e wb ⟨rfl, hbb⟩
 rw [UF.out]
 have hbw : Below W.heap.size W wb := hba.trans (hbb.mono hba.size)
 have HPb := qh (iZ.out.below hbw)
 have HKb := qh (hkW.trans (Kp.of hbw))
 have UG := qh (fV.out.below hbw fV.out.lt)
 have aaN := hbw.size
 clear hba hbb hbw
 have x9 := qh (next_any g s i wb HPb.out)
 rw [HI1.out] at x9
 go_wp2_with (go_at_call 30; (with_reducible refine x9.out.mono ?_); rintro e w2 ⟨rfl, hp2, hk2⟩; have HP2 := qh hp2; have HW2 := qh hk2)
 have Dn := take_any g s i1 w2 HP2.out [40] (by decide)
 rw [HI2.out, show tb [40] = ⟨#[40]⟩ from rfl] at Dn
 refine Dn.mono ?_
 intro e w3 htk
 rw [HWU.out, if_pos rfl] at htk
 obtain ⟨rfl, hp3, hk3⟩ := htk
 have Ik := qh hp3
 have FP := qh ((HKb.out.trans hk2).trans hk3)
 have qO := qh ((UG.out.kp hk2 (by omega)).kp hk3 (by omega))
 have hsz3 : W.heap.size ≤ w3.heap.size := by have h1 := hk2.size; have h2 := hk3.size; omega
 clear Dn hp2 hk2 hp3 hk3
 go_upto_region 8 with (fail)
 obtain ⟨W3, hW3⟩ := au (w3.alloc (.cells #[.int .i64 3, .int .i64 0, .string ⟨#[]⟩, .int .i64 0, .int .i64 0, .string ⟨#[]⟩, .slice none 0 0, .slice none 0 0] 27 (0, 0)))
 have Dp := qh (show aP W3 g s i2 by rw [hW3]; exact Ik.out.alloc _)
 have qg := qh (show Kp g w W3 by rw [hW3]; exact FP.out.alloc _)
 have Dq := qh (show ZB W3 w.heap.size by rw [hW3]; exact qO.out.alloc _)
 have MO := qh (show af W3 w3.heap.size 27 #[.int .i64 3, .int .i64 0, .string ⟨#[]⟩, .int .i64 0, .int .i64 0, .string ⟨#[]⟩, .slice none 0 0, .slice none 0 0] by rw [hW3]; exact af.new w3 _ _)
 have CZ : W3.heap.size = w3.heap.size + 1 := by rw [hW3]; simp
 rw [← hW3]
 clear hW3
 go_wp2_with fail
 have HC := Ei g s i2 W3 Dp.out (HM.out.kp qg.out) op r Ep.out xk.out
 obtain ⟨r2, hr2⟩ := ae (Pz s.data.toList.length (.args op) [] r)
 rw [hr2] at HC HRR
 refine HC.mono ?_
 have hge : g < w3.heap.size := Ik.out.b.lt
 clear HC hr2
 cases r2 with
 | err k =>
  rintro e w4 ⟨rfl, hk4⟩
  have hend : R = .err k := HRR.out
  go_wp2_with fail
  refine ⟨rfl, ?_⟩
  rw [hend]
  exact ⟨rfl, qg.out.trans hk4⟩
 | ok es l2 =>
  rintro e w4 ⟨i5, css, A, c, rfl, rfl, hes, hown, hel, wu, hk4⟩
  have KG := qh (show R = aN s.data.toList.length [41] (wordsOf s.data.toList i5) fun l => .ok [bQ op es] l from HRR.out)
  have zF := qh ((uQ (B := W3.heap.size) op hes (fun k hk => hk) hown (by unfold maxLen; omega)).imp (q := fun b => w3.heap.size < b) (fun k hk _ => by omega))
  have HB4 := qh (MO.out.kp hk4 (by omega))
  have dL := qh (Dq.out.kp hk4 (by omega))
  have vU := qh wu
  have iK := qh (qg.out.trans hk4)
  have vW : W3.heap.size ≤ w4.heap.size := hk4.size
  clear hes hown wu hk4
  go_wp2_with fail
  refine (ji op A es.length c w4).mono ?_
  rintro e w5 ⟨rfl, hb5⟩
  have hsz5 : w4.heap.size ≤ w5.heap.size := hb5.size
  have B5 := HB4.out.below hb5 HB4.out.lt
  have sK := qh B5
  have oP := qh (dL.out.below hb5 dL.out.lt)
  have D6 := qh (vU.out.below hb5)
  have rq := qh (iK.out.trans (Kp.of hb5))
  have HM5 := qh ((zF.out.keep (dG.of hb5)).up hb5.size)
  clear hb5
  obtain ⟨Ib, fz0, KA, fz1, QW, fz2, QX, fz3, QY, fz4, QZ, fz5, Q3, fz6, Q4, ZJ⟩ := af.z8 B5
  go_wp2_with fail
  obtain ⟨WT, Dt⟩ := au (dU w5 w3.heap.size (.int .i64 4) (.int .i64 op) (.string ⟨#[]⟩) (.int .i64 0) (.int .i64 0) (.string ⟨#[]⟩) (.slice none 0 0) (.slice A es.length c))
  have UI := qh (show af WT w3.heap.size 27 #[.int .i64 4, .int .i64 op, .string ⟨#[]⟩, .int .i64 0, .int .i64 0, .string ⟨#[]⟩, .slice none 0 0, .slice A es.length c] by rw [Dt]; exact iy sK.out _ _ _ _ _ _ _ _)
  have NH := qh (show aP WT g s i5 by rw [Dt]; exact D6.out.kp (dD _ _ _ _ _ _ _ _ _ _ g (by omega)))
  have KF := qh (show Kp g w WT by rw [Dt]; exact fF rq.out (by omega) _ _ _ _ _ _ _ _)
  have UJ := qh (show ZB WT w.heap.size by
   rw [Dt]
   (try unfold ZB); unfold af
   rw [dD _ _ _ _ _ _ _ _ _ _ _ (by omega)]
   exact oP.out)
  have HXT := qh (show dK WT (fun b => w3.heap.size < b) WT.heap.size (bQ op es) (ai (bQ op es) none 0 A c) by rw [Dt]; exact vM HM5.out (fun k hk => by omega) _ _ _ _ _ _ _ _)
  have aaT : WT.heap.size = w5.heap.size := by rw [Dt, df]
  dsimp only [dU] at Dt
  rw [← Dt]
  clear Dt B5
  have tJ := take_any g s i5 WT NH.out [41] (by decide)
  obtain ⟨i6, Hm⟩ := ae (aO s i5 + (aH s i5).length)
  have htl := fun h => kL (s := s) (i := i5) (word := [41]) h
  rw [show tb [41] = ⟨#[41]⟩ from rfl, Hm] at tJ
  rw [Hm] at htl
  refine tJ.mono ?_
  intro e w8 htk
  obtain ⟨b5, hb5⟩ := ae (kU (wordsOf s.data.toList i5) [41])
  rw [hb5] at htk
  cases b5
  ·
   rw [if_neg (by decide)] at htk
   obtain ⟨rfl, rfl⟩ := htk
   have hend : R = .err (aO s i5) := by rw [KG.out]; unfold aN; rw [if_neg (by rw [hb5]; decide), lT]
   have eH := qh hend
   clear hend tJ htl Hm
   go_wp2_with fail
   refine ⟨rfl, ?_⟩
   rw [eH.out]
   exact ⟨rfl, KF.out⟩
  ·
   rw [if_pos rfl] at htk
   obtain ⟨rfl, UK, hk8⟩ := htk
   have hend : R = .ok [bQ op es] (wordsOf s.data.toList i6) := by rw [KG.out]; unfold aN; rw [if_pos hb5, ← (htl hb5).1]
   have eH := qh hend
   have Xd := qh (HXT.out.N7 hk8 (fun k hk => by omega))
   have YV := qh UK
   have Ip := qh (KF.out.trans hk8)
   have B8 := UI.out.kp hk8 (by omega)
   have uo := UJ.out.kp hk8 (by omega)
   clear hend tJ htl Hm hb5 UK hk8
   obtain ⟨Qs, Qu, Qv, Qw, Qx, Qy, Qz, QA⟩ := af.c8 B8
   obtain ⟨aQ, eX, aS, eY, aT, fD, aU, fE, aY, jR, aZ, jS, bu, jT, bz, jU⟩ := af.z8 uo
   go_wp2_with fail
   refine bodyPost_ret (v := .tuple #[.agg #[.int .i64 4, .int .i64 op, .string ⟨#[]⟩, .int .i64 0, .int .i64 0, .string ⟨#[]⟩, .slice none 0 0, .slice A es.length c], .bool true]) (by simp [results, Tryz.results170, go_sem, aQ, aS, aT, aU, aY, aZ, bu, bz]) rfl ?_
   rw [eH.out]
   exact UC (L := w3.heap.size) (x := bQ op es) (A := none) (c := 0) (A' := A) (c' := c) Xd.out (by omega) hlt YV.out Ip.out
theorem UY (g : Nat) (s : ByteArray) (i : Nat) (w : World) (hp : aP w g s i) (hm : TM w g) (t u : Tok) (r : List Tok) (hL : wordsOf s.data.toList i = t :: u :: r) (hu : u.tx = [40]) (hx0 : t.tx = pI) (hP : ∀ L', L'.length ≤ r.length → fK 31 .or s L') :
  Calls Tryz.prog 170 #[.pointer (some ⟨g, 0, none⟩), .string (tb t.tx)] w fun e w' => UB w g s (rH s.data.toList.length t.tx r) e w' := by
 have jD := qh hp
 have HM := qh hm
 have hlt := hp.b.lt
 have hs4 := hp.s
 have hw1 := dJ hL
 have hw2 := dJ hw1.2.symm
 obtain ⟨i1, hi1⟩ := ae (t.at_ + t.tx.length)
 obtain ⟨ea, et, eh⟩ := jX hw1.1
 have HI1 := qh (show aO s i + (aH s i).length = i1 by rw [ea, et, hi1])
 rw [hi1] at hw1 hw2
 have hfree := xN hw2.1 hu (by decide)
 have HWU := qh (show kU (wordsOf s.data.toList i1) [40] = true by rw [← hw1.2]; simp [kU, hfree, hu])
 obtain ⟨i2, hi2⟩ := ae (aO s i1 + (aH s i1).length)
 have HI2 := qh hi2
 have Ep := qh (show wordsOf s.data.toList i2 = r by
  obtain ⟨Vp, WX, -⟩ := jX hw2.1
  rw [← hi2, Vp, WX]; exact hw2.2.symm)
 obtain ⟨x, hx⟩ := ae (t.tx)
 obtain ⟨R, hR⟩ := ae (rH s.data.toList.length t.tx r)
 rw [hR]
 rw [hx] at hR ⊢
 obtain ⟨v, hv⟩ := ae (tb x)
 have HV := qh hv
 have JZ := qh (fun w' => hv ▸ tC x w')
 have J3 := qh (fun w' => hv ▸ xZ x w')
 have HRR := qh hR
 have xk := qh hP
 rw [hv]
 rw [hx] at hx0
 clear hR hi1 hi2 ea et eh hw1 hw2 hfree hL hu hp hm hP
 subst hx0
 have UD : (v.toList == (⟨#[114, 111, 119]⟩ : ByteArray).toList) = true := jg (by rw [← hv]; rfl)
 have bs : (v.toList == [114, 111, 119]) = true := by simpa using UD
 clear UD
 have HRR := qh (show R = (match nameAt r with
  | none => .err (dO s.data.toList.length r)
  | some nm => aN s.data.toList.length [41] r.tail fun l1 => .ok [bP 3 0 nm []] l1) by rw [← HRR.out]; unfold rH; rw [if_neg (fun h => h row_zero.1), if_neg (fun h => h row_zero.2)]; cases nameAt r <;> rfl)
 have UE := qh row_zero.1
 have UF := qh row_zero.2
 clear hv
 go_enter Tryz.func170, Tryz.ntmps170
 go_upto_region 1 with (fail)
 obtain ⟨W, hW, hkW, BR, hszW, hWs, -⟩ := dY g w
 have iZ := qh (show aP W g s i by rw [hW]; exact jD.out.alloc _)
 have oZ := qh (HM.out.kp hkW)
 have fV := qh BR
 rw [← hW]
 clear hW BR
 go_wp2_with fail
 refine (JZ.out W).mono ?_
 rintro e wa ⟨rfl, hba⟩
 rw [UE.out]
 go_wp2_with fail
 refine (J3.out wa).mono ?_
 rintro e wb ⟨rfl, hbb⟩
 rw [UF.out]
 have hbw : Below W.heap.size W wb := hba.trans (hbb.mono hba.size)
 have HPb := qh (iZ.out.below hbw)
 have HKb := qh (hkW.trans (Kp.of hbw))
 have UG := qh (fV.out.below hbw fV.out.lt)
 have aaN := hbw.size
 clear hba hbb hbw
 have x9 := qh (next_any g s i wb HPb.out)
 rw [HI1.out] at x9
 go_wp2_with (go_at_call 30; (with_reducible refine x9.out.mono ?_); rintro e w2 ⟨rfl, hp2, hk2⟩; have HP2 := qh hp2; have HW2 := qh hk2)
 have Dn := take_any g s i1 w2 HP2.out [40] (by decide)
 rw [HI2.out, show tb [40] = ⟨#[40]⟩ from rfl] at Dn
 refine Dn.mono ?_
 intro e w3 htk
 rw [HWU.out, if_pos rfl] at htk
 obtain ⟨rfl, hp3, hk3⟩ := htk
 have Ik := qh hp3
 have FP := qh ((HKb.out.trans hk2).trans hk3)
 have qO := qh ((UG.out.kp hk2 (by omega)).kp hk3 (by omega))
 have hsz3 : W.heap.size ≤ w3.heap.size := by have h1 := hk2.size; have h2 := hk3.size; omega
 clear Dn hp2 hk2 hp3 hk3
 go_upto_region 8 with (fail)
 obtain ⟨W3, hW3⟩ := au (w3.alloc (.cells #[.int .i64 3, .int .i64 0, .string ⟨#[]⟩, .int .i64 0, .int .i64 0, .string ⟨#[]⟩, .slice none 0 0, .slice none 0 0] 27 (0, 0)))
 have Dp := qh (show aP W3 g s i2 by rw [hW3]; exact Ik.out.alloc _)
 have qg := qh (show Kp g w W3 by rw [hW3]; exact FP.out.alloc _)
 have Dq := qh (show ZB W3 w.heap.size by rw [hW3]; exact qO.out.alloc _)
 have MO := qh (show af W3 w3.heap.size 27 #[.int .i64 3, .int .i64 0, .string ⟨#[]⟩, .int .i64 0, .int .i64 0, .string ⟨#[]⟩, .slice none 0 0, .slice none 0 0] by rw [hW3]; exact af.new w3 _ _)
 have CZ : W3.heap.size = w3.heap.size + 1 := by rw [hW3]; simp
 rw [← hW3]
 clear hW3
 go_wp2_with fail
 refine (JP g s i2 W3 Dp.out).mono ?_
 intro e w4 hl
 unfold WW at hl
 rw [Ep.out] at hl
 obtain ⟨N, hN⟩ := ae (nameAt r)
 rw [hN] at hl
 have HN := qh hN
 have hge : g < w3.heap.size := Ik.out.b.lt
 cases N with
 | none =>
  obtain ⟨rfl, rfl⟩ := hl
  have hend : R = .err (dO s.data.toList.length r) := by rw [HRR.out, HN.out]
  go_wp2_with fail
  refine ⟨rfl, ?_⟩
  rw [hend]
  exact ⟨rfl, qg.out⟩
 | some nm =>
  obtain ⟨i3, rfl, UH, wu, hk4⟩ := hl
  have hnl := Dk (s := s) (i := i2) (by rw [Ep.out]; exact hN) hs4
  have Ic := qh (show nm.length ≤ maxLen by unfold maxLen; omega)
  obtain ⟨v4, hv4⟩ := ae (tb nm)
  have HV4 := qh hv4
  have KG := qh (show R = aN s.data.toList.length [41] (wordsOf s.data.toList i3) fun l => .ok [bP 3 0 nm []] l by rw [HRR.out, HN.out, UH])
  have iK := qh (qg.out.trans hk4)
  have B4 := MO.out.kp hk4 (by omega)
  have HB4 := qh B4
  have vU := qh wu
  have dL := qh (Dq.out.kp hk4 (by omega))
  have vW : W3.heap.size ≤ w4.heap.size := hk4.size
  have HN4 := qh (show dK w4 (fun b => w3.heap.size < b) w4.heap.size (bP 3 0 nm []) (ai (bP 3 0 nm []) none 0 none 0) from
   pg (B := w4.heap.size) (css := []) 3 0 nm Ic.out ⟨rfl, fun j h => absurd h (by simp)⟩ (fun k hk => by omega) ⟨rfl, .inl ⟨rfl, rfl⟩⟩ (Nat.zero_le _))
  rw [hv4]
  clear hN hv4 UH wu hk4 hnl
  obtain ⟨Ib, fz0, KA, fz1, QW, fz2, QX, fz3, QY, fz4, QZ, fz5, Q3, fz6, Q4, ZJ⟩ := af.z8 B4
  go_wp2_with fail
  obtain ⟨WT, Dt⟩ := au (w4.setCell ⟨w3.heap.size, 2, none⟩ (.string v4))
  have xU : ∀ k, k ≠ w3.heap.size → WT.heap[k]? = w4.heap[k]? := fun k hk => by rw [Dt]; exact Below.heap_setCell w4 ⟨w3.heap.size, 2, none⟩ _ k hk
  have aaT : WT.heap.size = w4.heap.size := by rw [Dt]; simp [World.setCell]
  have NH := qh (vU.out.kp (xU g (by omega)))
  have KF := qh (show Kp g w WT by rw [Dt]; exact Dl iK.out (by omega) _ _)
  have UI := qh (show af WT w3.heap.size 27 #[.int .i64 3, .int .i64 0, .string v4, .int .i64 0, .int .i64 0, .string ⟨#[]⟩, .slice none 0 0, .slice none 0 0] by
   rw [Dt]
   have h1 := HB4.out.kE 2 (.string v4)
   simpa using h1)
  have UJ := qh (show ZB WT w.heap.size by (try unfold ZB); unfold af; rw [xU _ (by omega)]; exact dL.out)
  have HXT := qh ((HN4.out.keep ⟨by omega, fun k hk _ => xU k (by omega)⟩).up (show w4.heap.size ≤ WT.heap.size by omega))
  rw [← Dt]
  clear Dt B4
  have tJ := take_any g s i3 WT NH.out [41] (by decide)
  obtain ⟨i6, Hm⟩ := ae (aO s i3 + (aH s i3).length)
  have htl := fun h => kL (s := s) (i := i3) (word := [41]) h
  rw [show tb [41] = ⟨#[41]⟩ from rfl, Hm] at tJ
  rw [Hm] at htl
  refine tJ.mono ?_
  intro e w8 htk
  obtain ⟨b5, hb5⟩ := ae (kU (wordsOf s.data.toList i3) [41])
  rw [hb5] at htk
  cases b5
  ·
   rw [if_neg (by decide)] at htk
   obtain ⟨rfl, rfl⟩ := htk
   have hend : R = .err (aO s i3) := by rw [KG.out]; unfold aN; rw [if_neg (by rw [hb5]; decide), lT]
   have eH := qh hend
   clear hend tJ htl Hm
   go_wp2_with fail
   refine ⟨rfl, ?_⟩
   rw [eH.out]
   exact ⟨rfl, KF.out⟩
  ·
   rw [if_pos rfl] at htk
   obtain ⟨rfl, UK, hk8⟩ := htk
   have hend : R = .ok [bP 3 0 nm []] (wordsOf s.data.toList i6) := by rw [KG.out]; unfold aN; rw [if_pos hb5, ← (htl hb5).1]
   have eH := qh hend
   have Xd := qh (HXT.out.N7 hk8 (fun k hk => by omega))
   have YV := qh UK
   have Ip := qh (KF.out.trans hk8)
   have B8 := UI.out.kp hk8 (by omega)
   have uo := UJ.out.kp hk8 (by omega)
   clear hend tJ htl Hm hb5 UK hk8
   obtain ⟨Qs, Qu, Qv, Qw, Qx, Qy, Qz, QA⟩ := af.c8 B8
   obtain ⟨aQ, eX, aS, eY, aT, fD, aU, fE, aY, jR, aZ, jS, bu, jT, bz, jU⟩ := af.z8 uo
   go_wp2_with fail
   refine bodyPost_ret (v := .tuple #[.agg #[.int .i64 3, .int .i64 0, .string v4, .int .i64 0, .int .i64 0, .string ⟨#[]⟩, .slice none 0 0, .slice none 0 0], .bool true]) (by simp [results, Tryz.results170, go_sem, aQ, aS, aT, aU, aY, aZ, bu, bz]) rfl ?_
   rw [eH.out]
   have hv4 := HV4.out
   subst hv4
   exact UC (L := w3.heap.size) (x := bP 3 0 nm []) (A := none) (c := 0) (A' := none) (c' := 0) Xd.out (by omega) hlt YV.out Ip.out
theorem QF (g : Nat) (w : World) (x : List UInt8) (ho : cZ x = 0) (hq : gm x = 0) (hx : x ≠ pI) :
  Calls Tryz.prog 170 #[.pointer (some ⟨g, 0, none⟩), .string (tb x)] w fun e w' => e = .returned (.tuple #[.agg #[.int .i64 0, .int .i64 0, .string ⟨#[]⟩, .int .i64 0, .int .i64 0, .string ⟨#[]⟩, .slice none 0 0, .slice none 0 0], .bool false]) ∧ Below w.heap.size w w' := by
 obtain ⟨v, hv⟩ := ae (tb x)
 have JZ := qh (fun w' => hv ▸ tC x w')
 have J3 := qh (fun w' => hv ▸ xZ x w')
 rw [ho] at JZ
 rw [hq] at J3
 have UD : (v.toList == (⟨#[114, 111, 119]⟩ : ByteArray).toList) = false := bZ (fun e => by
  have e2 : x = pI := by rw [← bT x, hv, e]; rfl
  exact hx e2)
 have bs : (v.toList == [114, 111, 119]) = false := by simpa using UD
 clear UD
 rw [hv]
 clear hv ho hq hx
 go_enter Tryz.func170, Tryz.ntmps170
 go_upto_region 1 with (fail)
 obtain ⟨W, hW, -, fV, -, -, hbW⟩ := iV 0 w
 rw [← hW]
 clear hW
 go_wp2_with fail
 refine (JZ.out W).mono ?_
 rintro e wa ⟨rfl, hba⟩
 go_wp2_with fail
 refine (J3.out wa).mono ?_
 rintro e wb ⟨rfl, hbb⟩
 have hbw : Below W.heap.size W wb := hba.trans (hbb.mono hba.size)
 have hbw0 := hbW.trans (hbw.mono hbW.size)
 have B9 := fV.out.below hbw fV.out.lt
 clear hba hbb hbw
 obtain ⟨aQ, eX, aS, eY, aT, fD, aU, fE, aY, jR, aZ, jS, bu, jT, bz, jU⟩ := af.z8 B9
 go_wp2_with fail
 refine bodyPost_ret (v := .tuple #[.agg #[.int .i64 0, .int .i64 0, .string ⟨#[]⟩, .int .i64 0, .int .i64 0, .string ⟨#[]⟩, .slice none 0 0, .slice none 0 0], .bool false]) (by simp [results, Tryz.results170, go_sem, aQ, aS, aT, aU, aY, aZ, bu, bz]) rfl ⟨rfl, ?_⟩
 exact ((((((((hbw0.setCell (p := ⟨w.heap.size, 0, none⟩) (Nat.le_refl _) _).setCell (p := ⟨w.heap.size, 1, none⟩) (Nat.le_refl _) _).setCell (p := ⟨w.heap.size, 2, none⟩) (Nat.le_refl _) _).setCell (p := ⟨w.heap.size, 3, none⟩) (Nat.le_refl _) _).setCell (p := ⟨w.heap.size, 4, none⟩) (Nat.le_refl _) _).setCell (p := ⟨w.heap.size, 5, none⟩) (Nat.le_refl _) _).setCell (p := ⟨w.heap.size, 6, none⟩) (Nat.le_refl _) _).setCell (p := ⟨w.heap.size, 7, none⟩) (Nat.le_refl _) _)
end Go.Proofs.YtobanldeicclmaaGreatDoor
namespace Go.Proofs.YtobanldeicclmaaGreatDoor
open Go.RowKit Vtx
theorem Dy (p : UInt8 → Bool) : ∀ l : List UInt8, l.dropWhile p = l.drop (aK p l)
 | [] => rfl
 | c :: r => by
  rw [List.dropWhile_cons, aK]
  cases h : p c
  ·
   simp
  ·
   simp [Dy p r]
theorem UZ {T s acc : List UInt8} {n : Nat} (h : n < s.length) (hc : s.getD n 0 ≠ 32) (hr : T = acc ++ qx acc.getLast? (s.drop n)) : T = (acc ++ [s.getD n 0]) ++ qx (acc ++ [s.getD n 0]).getLast? (s.drop (n + 1)) := by
 rw [hr, drop_cons h, fU _ _ hc]
 simp
theorem Nb {T s acc : List UInt8} {n J : Nat} (h : n < s.length) (hc : s.getD n 0 = 32) (hJ : J = n + aK aA (s.drop n)) (hr : T = acc ++ qx acc.getLast? (s.drop n)) :
  T = acc ++ if eU acc.getLast? (s.drop J) then 32 :: qx (some 32) (s.drop J) else qx acc.getLast? (s.drop J) := by
 have e1 : s.drop n = 32 :: s.drop (n + 1) := by rw [drop_cons h, hc]
 have e2 : (s.drop (n + 1)).dropWhile aA = s.drop J := by
  have h1 : (s.drop n).dropWhile aA = (s.drop (n + 1)).dropWhile aA := by rw [e1, List.dropWhile_cons]; rfl
  rw [← h1, Dy, List.drop_drop, hJ]
 rw [hr, e1, jP, e2]
theorem QG {s acc : List UInt8} {J : Nat} (h : ¬ J < s.length) : eU acc.getLast? (s.drop J) = false := by
 rw [List.drop_eq_nil_of_le (by omega)]
 unfold eU
 cases acc.getLast? <;> rfl
theorem QH {s acc : List UInt8} {a : UInt8} {J : Nat} (h : J < s.length) : eU (acc ++ [a]).getLast? (s.drop J) = ((bI a || decide (a = 35)) && bI (s.getD J 0)) := by
 rw [drop_cons h, List.getLast?_append]
 rfl
theorem FU {T s acc : List UInt8} {J : Nat} (hk : eU acc.getLast? (s.drop J) = true) (h : T = acc ++ if eU acc.getLast? (s.drop J) then 32 :: qx (some 32) (s.drop J) else qx acc.getLast? (s.drop J)) : T = (acc ++ [32]) ++ qx (acc ++ [32]).getLast? (s.drop J) := by
 rw [h, if_pos hk]; simp
theorem uZ {T s acc : List UInt8} {J : Nat} (hk : eU acc.getLast? (s.drop J) = false) (h : T = acc ++ if eU acc.getLast? (s.drop J) then 32 :: qx (some 32) (s.drop J) else qx acc.getLast? (s.drop J)) : T = acc ++ qx acc.getLast? (s.drop J) := by
 rw [h, if_neg (by rw [hk]; decide)]
end Go.Proofs.YtobanldeicclmaaGreatDoor
