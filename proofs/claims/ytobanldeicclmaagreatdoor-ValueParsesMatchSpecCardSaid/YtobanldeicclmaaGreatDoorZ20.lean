/- Lemmas for the claim: walks and plain laws. -/
import Derived.Test.YtobanldeicclmaaGreatDoorZ19
import Derived.Deep.RegionHeld3
set_option maxHeartbeats 8000000
set_option maxRecDepth 100000
namespace Go.Proofs.YtobanldeicclmaaGreatDoor
open Go.RowKit Vtx
attribute [local go_sem ↓] Go.wp_at_zero Go.wp_at_succ
theorem ag {P : Program} {md : Region.Mode} {ops : Array Oper} {Q : Exit → Act → World → Prop} {i : Nat} {o : Oper} {fuel : Nat} {listed : Array Bool} {a : Act} {w : World} (hr : Region.ready md ops listed = [i]) (ho : ops[i]? = some o)
  (h : ∀ K' : Act → World → Prop, (∀ a w, wpAny P md ops Q fuel (listed.setIfInBounds i true) a w → K' a w) → if Region.wanted o (yielded ops a.tmps) = true then Oper.wp P o a w K' Q else K' (a.put o.dst undef) w) : wpAny P md ops Q (fuel + 1) listed a w :=
 wpAny_ready hr (by simp) (AllReady.cons ho h AllReady.nil)
theorem PX (s : ByteArray) (st : RM) (h : ∀ st' : RM, st'.l.length ≤ st.l.length → MS 136 .product s st') : MS 114 .sum s st := by
 intro g w hp hm
 have xk := qh h
 have hlt := hp.lt
 have HM := qh hm
 have qf := qh hp
 obtain ⟨R, hR⟩ := ae (st.P s.data.toList.length .sum)
 have HG := qh (show R = (st.P s.data.toList.length .product).bind fun es l => Pz s.data.toList.length .uf es l by
  rw [← hR]
  cases st with
  | at_ l => exact bW _ .sum _ _
  | wr k => rfl)
 rw [hR]
 clear h hp hm hR
 go_enter Tryz.func114, Tryz.ntmps114
 go_upto_region 1 with (fail)
 obtain ⟨W, hW, hkW, fV, hszW, hWs, -⟩ := iV g w
 have ny := qh (show dQ W g s st by rw [hW]; exact qf.out.alloc _)
 have oZ := qh (HM.out.kp hkW)
 rw [← hW]
 clear hW
 go_wp2_with fail
 refine (xk.out st (Nat.le_refl _) g W ny.out oZ.out).mono ?_
 rintro e w1 ⟨k0, o0, s0, k1, n1, s1, A1, m1, c1, A2, m2, c2, rfl, hs1, hk1, hx1⟩
 obtain ⟨r1, hr1⟩ := ae (st.P s.data.toList.length .product)
 have GX := qh (show (aX r1).l.length ≤ st.l.length from hr1 ▸ RM.nU)
 rw [hr1] at hs1 hx1 HG
 have qc := qh hs1
 have xn := qh hx1
 have mW := qh (hkW.trans hk1)
 have LU := hk1.size
 have eG := qh (fV.out.kp hk1 (by omega))
 clear hs1 hx1 hk1 hr1
 go_wp2_with fail
 obtain ⟨W1, hW1⟩ := au (w1.alloc (.cells #[.int .i64 k0, .int .i64 o0, .string s0, .int .i64 k1, .int .i64 n1, .string s1, .slice A1 m1 c1, .slice A2 m2 c2] 27 (0, 0)))
 have pU := qh (show Kp g w W1 by rw [hW1]; exact mW.out.alloc _)
 have GY := qh (show dQ W1 g s (aX r1) by rw [hW1]; exact qc.out.alloc _)
 have xX := qh (show ZB W1 w.heap.size by rw [hW1]; exact eG.out.alloc _)
 have Uj := qh (show af W1 w1.heap.size 27 #[.int .i64 k0, .int .i64 o0, .string s0, .int .i64 k1, .int .i64 n1, .string s1, .slice A1 m1 c1, .slice A2 m2 c2] by rw [hW1]; exact af.new w1 _ _)
 have CE := qh (show RX (fun b => W.heap.size ≤ b ∧ b ≠ w1.heap.size) W1 r1 [.int .i64 k0, .int .i64 o0, .string s0, .int .i64 k1, .int .i64 n1, .string s1, .slice A1 m1 c1, .slice A2 m2 c2] by
  have h1 := xn.out.imp (q := (fun b => W.heap.size ≤ b ∧ b ≠ w1.heap.size)) (fun k hk hl => ⟨hk, by omega⟩)
  rw [hW1]
  exact h1.keep (dG.of ((Below.refl _ _).alloc (Nat.le_refl _) _)))
 have CG : W1.heap.size = w1.heap.size + 1 := by rw [hW1]; simp
 rw [← hW1]
 clear hW1
 go_loopw [4] (fun _ wr => ∃ (r : jO) (gu gy : Int) (gz : ByteArray) (gG gI : Int) (gJ : ByteArray) (gK : Option Addr) (gQ gU : Nat) (gV : Option Addr) (gW gX : Nat), Hid (af wr w1.heap.size 27 #[.int .i64 gu, .int .i64 gy, .string gz, .int .i64 gG, .int .i64 gI, .string gJ, .slice gK gQ gU, .slice gV gW gX]) ∧ Hid (RX (fun b => W.heap.size ≤ b ∧ b ≠ w1.heap.size) wr r [.int .i64 gu, .int .i64 gy, .string gz, .int .i64 gG, .int .i64 gI, .string gJ, .slice gK gQ gU, .slice gV gW gX]) ∧ Hid (dQ wr g s (aX r)) ∧ Hid (Kp g w wr) ∧ Hid (ZB wr w.heap.size) ∧ Hid (R = r.bind fun es l => Pz s.data.toList.length .uf es l) ∧ Hid ((aX r).l.length ≤ st.l.length)) (fun _ wr => JB wr g)
 case atStart => exact ⟨r1, k0, o0, s0, k1, n1, s1, A1, m1, c1, A2, m2, c2, Uj, CE, GY, pU, xX, HG, GX⟩
 case round =>
  obtain ⟨r, gu, gy, gz, gG, gI, gJ, gK, gQ, gU, gV, gW, gX, WI, HY, xY, qI, DL, uO, qJ⟩ := hrel
  have KE := qh (LQ xY.out 15 16 (by decide))
  obtain ⟨o, ho⟩ := ae ((aX r).sg 15 16)
  rw [ho] at KE
  have HO := qh ho
  have hgw : g < wr.heap.size := xY.out.lt
  have hyl := WI.out.lt
  clear ho
  go_wp2_with fail
  refine KE.out.mono ?_
  rintro e w4 ⟨rfl, hs4, hk4⟩
  have iK := qh hk4
  have HB4 := qh (WI.out.kp hk4 (by omega))
  have dL := qh (DL.out.kp hk4 (by omega))
  have PY := qh (HY.out.kp hk4 (fun k hk => by omega))
  have LV := qh hk4.size
  have zF := qh (HM.out.kp (qI.out.trans hk4))
  have mG := qI
  by_cases h0 : o = 0
  ·
   subst h0
   rw [if_pos rfl] at hs4
   have pX := qh hs4
   have B4 := HB4.out
   have FC := dL.out
   clear hs4 hk4
   obtain ⟨CJ, CO, Ea, Eb, Ec, Ed, Ee, Ef⟩ := af.c8 B4
   obtain ⟨aQ, eX, aS, eY, aT, fD, aU, fE, aY, jR, aZ, jS, bu, jT, bz, jU⟩ := af.z8 FC
   go_wp2_with fail
   refine bodyPost_ret (v := .agg #[.int .i64 gu, .int .i64 gy, .string gz, .int .i64 gG, .int .i64 gI, .string gJ, .slice gK gQ gU, .slice gV gW gX]) (by simp [results, Tryz.results114, go_sem, aQ, aS, aT, aU, aY, aZ, bu, bz]) rfl ⟨gu, gy, gz, gG, gI, gJ, gK, gQ, gU, gV, gW, gX, rfl, ?_⟩
   have hend : R = r := by
    rw [uO.out]
    cases hr : r with
    | err k => rfl
    | ok es l =>
     have h1 : bJ 15 16 l = 0 := by have := HO.out; rw [hr] at this; exact this
     show Pz s.data.toList.length .uf es l = .ok es l
     rw [bW]
     dsimp only [dB]
     rw [if_pos h1]
   rw [hend]
   exact RR.ret (L := W.heap.size) pX.out (qI.out.trans iK.out) (PY.out.imp (fun k hk _ => hk.1)) hWs hlt _ _ _ _ _ _ _ _
  ·
   rw [if_neg h0] at hs4
   have pX := qh hs4
   have Vq := qh h0
   have bo : (o == 0) = false := by simp [h0]
   obtain ⟨tt, rr, hst⟩ := RM.LP (st := aX r) (a := 15) (b := 16) (by rw [HO.out]; exact h0)
   obtain ⟨y, hy⟩ : ∃ y, r = .ok [y] (tt :: rr) ∧ dK w4 (fun b => W.heap.size ≤ b ∧ b ≠ w1.heap.size) w4.heap.size y [.int .i64 gu, .int .i64 gy, .string gz, .int .i64 gG, .int .i64 gI, .string gJ, .slice gK gQ gU, .slice gV gW gX] := by
    cases hr : r with
    | err k => rw [hr] at hst; cases hst
    | ok es l =>
     rw [hr] at hst
     injection hst with hst
     subst hst
     obtain ⟨y, h1, h2⟩ := PY.out es _ hr
     exact ⟨y, by rw [h1], h2⟩
   have YB := qh hy.2
   have zQ := qh hy.1
   obtain ⟨r2, hr2⟩ := ae ((aX r).tl.P s.data.toList.length .product)
   have fO := qh (show (aX r2).l.length < (aX r).l.length by
    have h1 := RM.nU (st := (aX r).tl) (n := s.data.toList.length) (nt := .product)
    rw [hr2] at h1
    have h2 := RM.qC hst
    omega)
   have rF := qh (show R = r2.bind fun es l => Pz s.data.toList.length .uf [bQ o ([y] ++ es)] l by
    have h1 : bJ 15 16 (tt :: rr) = o := by have := HO.out; rw [zQ.out] at this; exact this
    rw [uO.out, ← hr2, zQ.out]
    show Pz s.data.toList.length .uf [y] (tt :: rr) = _
    rw [bW]
    dsimp only [dB]
    rw [if_neg (by rw [h1]; exact Vq.out), h1]
    rfl)
   have HC2 := qh (fun W' hp hm => hr2 ▸ xk.out (aX r).tl (by have h1 := RM.qC hst; have h2 := qJ.out; omega) g W' hp hm)
   have HP2 := qh hr2
   clear hs4 hk4 h0 hst hy hr2
   have B4 := HB4.out
   obtain ⟨CJ, CO, Ea, Eb, Ec, Ed, Ee, Ef⟩ := af.c8 B4
   go_upto_region 5 with (fail)
   refine wp_region_any (by kernel_rfl) ?_
   change wpAny _ _ _ _ _ _ _ (World.drew _)
   refine wpAny_take (i := 0) (v := ?v1) rfl (by kernel_rfl) (by kernel_rfl) (by kernel_rfl) (fun _ _ _ h => h) (Or.inl ⟨by rfl, ?y1⟩) ?r1
   case y1 =>
    intro w
    go_simp
    all_goals with_reducible rfl
   refine wpAny_take (i := 2) (v := ?v2) rfl (by kernel_rfl) (by kernel_rfl) (by kernel_rfl) (fun _ _ _ h => h) (Or.inl ⟨by rfl, ?y2⟩) ?r2
   case y2 =>
    intro w
    go_simp
    all_goals with_reducible rfl
   refine wpAny_ready (rs := [1, 3]) (by kernel_rfl) (by simp) ?_
   refine AllReady.cons rfl (fun K hK => ?_) ?_
   go_simp
   refine hK _ _ ?_
   clear hK K
   refine ag (i := 3) (by kernel_rfl) rfl (fun K hK => ?_)
   go_simp
   go_wp2_with fail
   refine (HC2.out _ pX.out.drew (zF.out.below (Below.refl _ _).drew)).mono ?_
   rintro e w5 ⟨lU, lV, lW, lX, lY, lZ, l7, l9, mf, mg, mi, mr, rfl, hs5, hk5, hx5⟩
   have B5 := (HB4.out.below (Below.refl _ _).drew HB4.out.lt).kp hk5 (by omega)
   obtain ⟨Fp, KC, DZ, NS, Q9, Rf, Rh, PZ⟩ := af.c8 B5
   go_wp2_with fail
   rotate_left
   refine AllReady.cons rfl (fun K hK => ?_) AllReady.nil
   go_simp
   go_wp2_with fail
   refine (HC2.out _ pX.out.drew (zF.out.below (Below.refl _ _).drew)).mono ?_
   rintro e w5 ⟨lU, lV, lW, lX, lY, lZ, l7, l9, mf, mg, mi, mr, rfl, hs5, hk5, hx5⟩
   have B5 := (HB4.out.below (Below.refl _ _).drew HB4.out.lt).kp hk5 (by omega)
   obtain ⟨Fp, KC, DZ, NS, Q9, Rf, Rh, PZ⟩ := af.c8 B5
   go_wp2_with fail
   refine ag (i := 1) (by kernel_rfl) rfl (fun K hK => ?_)
   go_simp
   refine hK _ _ ?_
   clear hK K
   rotate_left
   all_goals
    refine ag (i := 4) (by kernel_rfl) rfl (fun K hK => ?_)
    go_simp
    refine hK _ _ ?_
    clear hK K
    refine ag (i := 5) (by kernel_rfl) rfl (fun K hK => ?_)
    go_simp
    go_wp2_with fail
    refine (oO o _ 2 2 _).mono ?_
    rintro e w6 ⟨rfl, hb6⟩
    have B6 := (B5.alloc (.cells #[.int .i64 gu, .int .i64 gy, .string gz, .int .i64 gG, .int .i64 gI, .string gJ, .slice gK gQ gU, .slice gV gW gX, .int .i64 lU, .int .i64 lV, .string lW, .int .i64 lX, .int .i64 lY, .string lZ, .slice l7 l9 mf, .slice mg mi mr] 27 (0, 0))).below hb6 (B5.alloc _).lt
    obtain ⟨iW, P5, qc1, P6, qc2, P7, qc3, P8, qc4, P9, qc5, Qa, qc6, Qb, N8, Qc⟩ := af.z8 B6
    go_wp2_with fail
    refine ag (i := 6) (by kernel_rfl) rfl (fun K hK => ?_)
    go_simp
    refine hK _ _ ?_
    clear hK K
    refine wpAny_done (by kernel_rfl) ?_ _
    have Uk := hk5.size
    have WJ : w4.heap.size ≤ w5.heap.size := by simpa using Uk
    have hs4 := LV.out
    have aar : g < w5.heap.size := hs5.lt
    have WL := qh (show dQ (dU w6 w1.heap.size (.int .i64 4) (.int .i64 o) (.string ⟨#[]⟩) (.int .i64 0) (.int .i64 0) (.string ⟨#[]⟩) (.slice none 0 0) (.slice (some ⟨w5.heap.size, 0, none⟩) 2 2)) g s (aX (r2.bind fun es l => .ok [bQ o ([y] ++ es)] l)) by
     rw [dH (f := fun es => [bQ o ([y] ++ es)])]
     exact ((hs5.alloc (.cells #[.int .i64 gu, .int .i64 gy, .string gz, .int .i64 gG, .int .i64 gI, .string gJ, .slice gK gQ gU, .slice gV gW gX, .int .i64 lU, .int .i64 lV, .string lW, .int .i64 lX, .int .i64 lY, .string lZ, .slice l7 l9 mf, .slice mg mi mr] 27 (0, 0))).below hb6).dU (by omega) _ _ _ _ _ _ _ _)
    have LX := qh (show Kp g w (dU w6 w1.heap.size (.int .i64 4) (.int .i64 o) (.string ⟨#[]⟩) (.int .i64 0) (.int .i64 0) (.string ⟨#[]⟩) (.slice none 0 0) (.slice (some ⟨w5.heap.size, 0, none⟩) 2 2)) from fF ((((mG.out.trans iK.out).trans ((Kp.of (Below.refl _ _).drew).trans hk5)).alloc (.cells #[.int .i64 gu, .int .i64 gy, .string gz, .int .i64 gG, .int .i64 gI, .string gJ, .slice gK gQ gU, .slice gV gW gX, .int .i64 lU, .int .i64 lV, .string lW, .int .i64 lX, .int .i64 lY, .string lZ, .slice l7 l9 mf, .slice mg mi mr] 27 (0, 0))).trans (Kp.of hb6)) (by omega) _ _ _ _ _ _ _ _)
    have Vr := qh (show af (dU w6 w1.heap.size (.int .i64 4) (.int .i64 o) (.string ⟨#[]⟩) (.int .i64 0) (.int .i64 0) (.string ⟨#[]⟩) (.slice none 0 0) (.slice (some ⟨w5.heap.size, 0, none⟩) 2 2)) w.heap.size 27 #[.int .i64 0, .int .i64 0, .string ⟨#[]⟩, .int .i64 0, .int .i64 0, .string ⟨#[]⟩, .slice none 0 0, .slice none 0 0] by
     have h1 := ((((dL.out.below (Below.refl _ _).drew dL.out.lt).kp hk5 (by omega)).alloc (.cells #[.int .i64 gu, .int .i64 gy, .string gz, .int .i64 gG, .int .i64 gI, .string gJ, .slice gK gQ gU, .slice gV gW gX, .int .i64 lU, .int .i64 lV, .string lW, .int .i64 lX, .int .i64 lY, .string lZ, .slice l7 l9 mf, .slice mg mi mr] 27 (0, 0))).below hb6 (by have := hb6.size; simp at *; omega))
     (try unfold ZB); unfold af
     rw [dD _ _ _ _ _ _ _ _ _ _ _ (by omega)]
     exact h1)
    have HYN := qh (RX.dU (b := w1.heap.size) (RX.two o (((YB.out.keep (dG.of (Below.refl _ _).drew)).up (by simp)).N7 hk5 (fun k hk => by omega)) (hx5.imp (q := (fun b => W.heap.size ≤ b ∧ b ≠ w1.heap.size)) (fun k hk _ => by simp at hk; exact ⟨by omega, by omega⟩)) hb6 (fun k hk => ⟨by omega, by omega⟩)) (fun k hk => hk.2) (.int .i64 4) (.int .i64 o) (.string ⟨#[]⟩) (.int .i64 0) (.int .i64 0) (.string ⟨#[]⟩) (.slice none 0 0) (.slice (some ⟨w5.heap.size, 0, none⟩) 2 2))
    have HRN := qh (show R = (r2.bind fun es l => .ok [bQ o ([y] ++ es)] l).bind fun es l => Pz s.data.toList.length .uf es l by
     rw [rF.out]; cases r2 <;> rfl)
    have FD := qh (show (aX (r2.bind fun es l => .ok [bQ o ([y] ++ es)] l)).l.length < (aX r).l.length by
     rw [dH (f := fun es => [bQ o ([y] ++ es)])]
     exact fO.out)
    try go_wp2_with fail
    go_roundw
    case rel => exact ⟨_, 4, o, ⟨#[]⟩, 0, 0, ⟨#[]⟩, none, 0, 0, some ⟨w5.heap.size, 0, none⟩, 2, 2, qh (iy B6 _ _ _ _ _ _ _ _), HYN, WL, LX, Vr, HRN, qh (by have h1 := FD.out; have h2 := qJ.out; omega)⟩
    case measure =>
     have h1 := WL.out.len
     have h2 := xY.out.len
     have h3 := FD.out
     rw [← h1, ← h2] at h3
     exact h3
theorem Eg (s : ByteArray) (st : RM) (h : ∀ st' : RM, st'.l.length ≤ st.l.length → MS 152 .minus s st') : MS 136 .product s st := by
 intro g w hp hm
 have xk := qh h
 have hlt := hp.lt
 have HM := qh hm
 have qf := qh hp
 obtain ⟨R, hR⟩ := ae (st.P s.data.toList.length .product)
 have HG := qh (show R = (st.P s.data.toList.length .minus).bind fun es l => Pz s.data.toList.length .fH es l by
  rw [← hR]
  cases st with
  | at_ l => exact bW _ .product _ _
  | wr k => rfl)
 rw [hR]
 clear h hp hm hR
 go_enter Tryz.func136, Tryz.ntmps136
 go_upto_region 1 with (fail)
 obtain ⟨W, hW, hkW, fV, hszW, hWs, -⟩ := iV g w
 have ny := qh (show dQ W g s st by rw [hW]; exact qf.out.alloc _)
 have oZ := qh (HM.out.kp hkW)
 rw [← hW]
 clear hW
 go_wp2_with fail
 refine (xk.out st (Nat.le_refl _) g W ny.out oZ.out).mono ?_
 rintro e w1 ⟨k0, o0, s0, k1, n1, s1, A1, m1, c1, A2, m2, c2, rfl, hs1, hk1, hx1⟩
 obtain ⟨r1, hr1⟩ := ae (st.P s.data.toList.length .minus)
 have GX := qh (show (aX r1).l.length ≤ st.l.length from hr1 ▸ RM.nU)
 rw [hr1] at hs1 hx1 HG
 have qc := qh hs1
 have xn := qh hx1
 have mW := qh (hkW.trans hk1)
 have LU := hk1.size
 have eG := qh (fV.out.kp hk1 (by omega))
 clear hs1 hx1 hk1 hr1
 go_wp2_with fail
 obtain ⟨W1, hW1⟩ := au (w1.alloc (.cells #[.int .i64 k0, .int .i64 o0, .string s0, .int .i64 k1, .int .i64 n1, .string s1, .slice A1 m1 c1, .slice A2 m2 c2] 27 (0, 0)))
 have pU := qh (show Kp g w W1 by rw [hW1]; exact mW.out.alloc _)
 have GY := qh (show dQ W1 g s (aX r1) by rw [hW1]; exact qc.out.alloc _)
 have xX := qh (show ZB W1 w.heap.size by rw [hW1]; exact eG.out.alloc _)
 have Uj := qh (show af W1 w1.heap.size 27 #[.int .i64 k0, .int .i64 o0, .string s0, .int .i64 k1, .int .i64 n1, .string s1, .slice A1 m1 c1, .slice A2 m2 c2] by rw [hW1]; exact af.new w1 _ _)
 have CE := qh (show RX (fun b => W.heap.size ≤ b ∧ b ≠ w1.heap.size) W1 r1 [.int .i64 k0, .int .i64 o0, .string s0, .int .i64 k1, .int .i64 n1, .string s1, .slice A1 m1 c1, .slice A2 m2 c2] by
  have h1 := xn.out.imp (q := (fun b => W.heap.size ≤ b ∧ b ≠ w1.heap.size)) (fun k hk hl => ⟨hk, by omega⟩)
  rw [hW1]
  exact h1.keep (dG.of ((Below.refl _ _).alloc (Nat.le_refl _) _)))
 have CG : W1.heap.size = w1.heap.size + 1 := by rw [hW1]; simp
 rw [← hW1]
 clear hW1
 go_loopw [4] (fun _ wr => ∃ (r : jO) (gu gy : Int) (gz : ByteArray) (gG gI : Int) (gJ : ByteArray) (gK : Option Addr) (gQ gU : Nat) (gV : Option Addr) (gW gX : Nat), Hid (af wr w1.heap.size 27 #[.int .i64 gu, .int .i64 gy, .string gz, .int .i64 gG, .int .i64 gI, .string gJ, .slice gK gQ gU, .slice gV gW gX]) ∧ Hid (RX (fun b => W.heap.size ≤ b ∧ b ≠ w1.heap.size) wr r [.int .i64 gu, .int .i64 gy, .string gz, .int .i64 gG, .int .i64 gI, .string gJ, .slice gK gQ gU, .slice gV gW gX]) ∧ Hid (dQ wr g s (aX r)) ∧ Hid (Kp g w wr) ∧ Hid (ZB wr w.heap.size) ∧ Hid (R = r.bind fun es l => Pz s.data.toList.length .fH es l) ∧ Hid ((aX r).l.length ≤ st.l.length)) (fun _ wr => JB wr g)
 case atStart => exact ⟨r1, k0, o0, s0, k1, n1, s1, A1, m1, c1, A2, m2, c2, Uj, CE, GY, pU, xX, HG, GX⟩
 case round =>
  obtain ⟨r, gu, gy, gz, gG, gI, gJ, gK, gQ, gU, gV, gW, gX, WI, HY, xY, qI, DL, uO, qJ⟩ := hrel
  have KE := qh (LQ xY.out 17 19 (by decide))
  obtain ⟨o, ho⟩ := ae ((aX r).sg 17 19)
  rw [ho] at KE
  have HO := qh ho
  have hgw : g < wr.heap.size := xY.out.lt
  have hyl := WI.out.lt
  clear ho
  go_wp2_with fail
  refine KE.out.mono ?_
  rintro e w4 ⟨rfl, hs4, hk4⟩
  have iK := qh hk4
  have HB4 := qh (WI.out.kp hk4 (by omega))
  have dL := qh (DL.out.kp hk4 (by omega))
  have PY := qh (HY.out.kp hk4 (fun k hk => by omega))
  have LV := qh hk4.size
  have zF := qh (HM.out.kp (qI.out.trans hk4))
  have mG := qI
  by_cases h0 : o = 0
  ·
   subst h0
   rw [if_pos rfl] at hs4
   have pX := qh hs4
   have B4 := HB4.out
   have FC := dL.out
   clear hs4 hk4
   obtain ⟨CJ, CO, Ea, Eb, Ec, Ed, Ee, Ef⟩ := af.c8 B4
   obtain ⟨aQ, eX, aS, eY, aT, fD, aU, fE, aY, jR, aZ, jS, bu, jT, bz, jU⟩ := af.z8 FC
   go_wp2_with fail
   refine bodyPost_ret (v := .agg #[.int .i64 gu, .int .i64 gy, .string gz, .int .i64 gG, .int .i64 gI, .string gJ, .slice gK gQ gU, .slice gV gW gX]) (by simp [results, Tryz.results136, go_sem, aQ, aS, aT, aU, aY, aZ, bu, bz]) rfl ⟨gu, gy, gz, gG, gI, gJ, gK, gQ, gU, gV, gW, gX, rfl, ?_⟩
   have hend : R = r := by
    rw [uO.out]
    cases hr : r with
    | err k => rfl
    | ok es l =>
     have h1 : bJ 17 19 l = 0 := by have := HO.out; rw [hr] at this; exact this
     show Pz s.data.toList.length .fH es l = .ok es l
     rw [bW]
     dsimp only [dB]
     rw [if_pos h1]
   rw [hend]
   exact RR.ret (L := W.heap.size) pX.out (qI.out.trans iK.out) (PY.out.imp (fun k hk _ => hk.1)) hWs hlt _ _ _ _ _ _ _ _
  ·
   rw [if_neg h0] at hs4
   have pX := qh hs4
   have Vq := qh h0
   have bo : (o == 0) = false := by simp [h0]
   obtain ⟨tt, rr, hst⟩ := RM.LP (st := aX r) (a := 17) (b := 19) (by rw [HO.out]; exact h0)
   obtain ⟨y, hy⟩ : ∃ y, r = .ok [y] (tt :: rr) ∧ dK w4 (fun b => W.heap.size ≤ b ∧ b ≠ w1.heap.size) w4.heap.size y [.int .i64 gu, .int .i64 gy, .string gz, .int .i64 gG, .int .i64 gI, .string gJ, .slice gK gQ gU, .slice gV gW gX] := by
    cases hr : r with
    | err k => rw [hr] at hst; cases hst
    | ok es l =>
     rw [hr] at hst
     injection hst with hst
     subst hst
     obtain ⟨y, h1, h2⟩ := PY.out es _ hr
     exact ⟨y, by rw [h1], h2⟩
   have YB := qh hy.2
   have zQ := qh hy.1
   obtain ⟨r2, hr2⟩ := ae ((aX r).tl.P s.data.toList.length .minus)
   have fO := qh (show (aX r2).l.length < (aX r).l.length by
    have h1 := RM.nU (st := (aX r).tl) (n := s.data.toList.length) (nt := .minus)
    rw [hr2] at h1
    have h2 := RM.qC hst
    omega)
   have rF := qh (show R = r2.bind fun es l => Pz s.data.toList.length .fH [bQ o ([y] ++ es)] l by
    have h1 : bJ 17 19 (tt :: rr) = o := by have := HO.out; rw [zQ.out] at this; exact this
    rw [uO.out, ← hr2, zQ.out]
    show Pz s.data.toList.length .fH [y] (tt :: rr) = _
    rw [bW]
    dsimp only [dB]
    rw [if_neg (by rw [h1]; exact Vq.out), h1]
    rfl)
   have HC2 := qh (fun W' hp hm => hr2 ▸ xk.out (aX r).tl (by have h1 := RM.qC hst; have h2 := qJ.out; omega) g W' hp hm)
   have HP2 := qh hr2
   clear hs4 hk4 h0 hst hy hr2
   have B4 := HB4.out
   obtain ⟨CJ, CO, Ea, Eb, Ec, Ed, Ee, Ef⟩ := af.c8 B4
   go_upto_region 5 with (fail)
   refine wp_region_any (by kernel_rfl) ?_
   change wpAny _ _ _ _ _ _ _ (World.drew _)
   refine wpAny_take (i := 0) (v := ?v3) rfl (by kernel_rfl) (by kernel_rfl) (by kernel_rfl) (fun _ _ _ h => h) (Or.inl ⟨by rfl, ?y3⟩) ?r3
   case y3 =>
    intro w
    go_simp
    all_goals with_reducible rfl
   refine wpAny_take (i := 2) (v := ?v4) rfl (by kernel_rfl) (by kernel_rfl) (by kernel_rfl) (fun _ _ _ h => h) (Or.inl ⟨by rfl, ?y4⟩) ?r4
   case y4 =>
    intro w
    go_simp
    all_goals with_reducible rfl
   refine wpAny_ready (rs := [1, 3]) (by kernel_rfl) (by simp) ?_
   refine AllReady.cons rfl (fun K hK => ?_) ?_
   go_simp
   refine hK _ _ ?_
   clear hK K
   refine ag (i := 3) (by kernel_rfl) rfl (fun K hK => ?_)
   go_simp
   go_wp2_with fail
   refine (HC2.out _ pX.out.drew (zF.out.below (Below.refl _ _).drew)).mono ?_
   rintro e w5 ⟨lU, lV, lW, lX, lY, lZ, l7, l9, mf, mg, mi, mr, rfl, hs5, hk5, hx5⟩
   have B5 := (HB4.out.below (Below.refl _ _).drew HB4.out.lt).kp hk5 (by omega)
   obtain ⟨Fp, KC, DZ, NS, Q9, Rf, Rh, PZ⟩ := af.c8 B5
   go_wp2_with fail
   rotate_left
   refine AllReady.cons rfl (fun K hK => ?_) AllReady.nil
   go_simp
   go_wp2_with fail
   refine (HC2.out _ pX.out.drew (zF.out.below (Below.refl _ _).drew)).mono ?_
   rintro e w5 ⟨lU, lV, lW, lX, lY, lZ, l7, l9, mf, mg, mi, mr, rfl, hs5, hk5, hx5⟩
   have B5 := (HB4.out.below (Below.refl _ _).drew HB4.out.lt).kp hk5 (by omega)
   obtain ⟨Fp, KC, DZ, NS, Q9, Rf, Rh, PZ⟩ := af.c8 B5
   go_wp2_with fail
   refine ag (i := 1) (by kernel_rfl) rfl (fun K hK => ?_)
   go_simp
   refine hK _ _ ?_
   clear hK K
   rotate_left
   all_goals
    refine ag (i := 4) (by kernel_rfl) rfl (fun K hK => ?_)
    go_simp
    refine hK _ _ ?_
    clear hK K
    refine ag (i := 5) (by kernel_rfl) rfl (fun K hK => ?_)
    go_simp
    go_wp2_with fail
    refine (oO o _ 2 2 _).mono ?_
    rintro e w6 ⟨rfl, hb6⟩
    have B6 := (B5.alloc (.cells #[.int .i64 gu, .int .i64 gy, .string gz, .int .i64 gG, .int .i64 gI, .string gJ, .slice gK gQ gU, .slice gV gW gX, .int .i64 lU, .int .i64 lV, .string lW, .int .i64 lX, .int .i64 lY, .string lZ, .slice l7 l9 mf, .slice mg mi mr] 27 (0, 0))).below hb6 (B5.alloc _).lt
    obtain ⟨iW, P5, qc1, P6, qc2, P7, qc3, P8, qc4, P9, qc5, Qa, qc6, Qb, N8, Qc⟩ := af.z8 B6
    go_wp2_with fail
    refine ag (i := 6) (by kernel_rfl) rfl (fun K hK => ?_)
    go_simp
    refine hK _ _ ?_
    clear hK K
    refine wpAny_done (by kernel_rfl) ?_ _
    have Uk := hk5.size
    have WJ : w4.heap.size ≤ w5.heap.size := by simpa using Uk
    have hs4 := LV.out
    have aar : g < w5.heap.size := hs5.lt
    have WL := qh (show dQ (dU w6 w1.heap.size (.int .i64 4) (.int .i64 o) (.string ⟨#[]⟩) (.int .i64 0) (.int .i64 0) (.string ⟨#[]⟩) (.slice none 0 0) (.slice (some ⟨w5.heap.size, 0, none⟩) 2 2)) g s (aX (r2.bind fun es l => .ok [bQ o ([y] ++ es)] l)) by
     rw [dH (f := fun es => [bQ o ([y] ++ es)])]
     exact ((hs5.alloc (.cells #[.int .i64 gu, .int .i64 gy, .string gz, .int .i64 gG, .int .i64 gI, .string gJ, .slice gK gQ gU, .slice gV gW gX, .int .i64 lU, .int .i64 lV, .string lW, .int .i64 lX, .int .i64 lY, .string lZ, .slice l7 l9 mf, .slice mg mi mr] 27 (0, 0))).below hb6).dU (by omega) _ _ _ _ _ _ _ _)
    have LX := qh (show Kp g w (dU w6 w1.heap.size (.int .i64 4) (.int .i64 o) (.string ⟨#[]⟩) (.int .i64 0) (.int .i64 0) (.string ⟨#[]⟩) (.slice none 0 0) (.slice (some ⟨w5.heap.size, 0, none⟩) 2 2)) from fF ((((mG.out.trans iK.out).trans ((Kp.of (Below.refl _ _).drew).trans hk5)).alloc (.cells #[.int .i64 gu, .int .i64 gy, .string gz, .int .i64 gG, .int .i64 gI, .string gJ, .slice gK gQ gU, .slice gV gW gX, .int .i64 lU, .int .i64 lV, .string lW, .int .i64 lX, .int .i64 lY, .string lZ, .slice l7 l9 mf, .slice mg mi mr] 27 (0, 0))).trans (Kp.of hb6)) (by omega) _ _ _ _ _ _ _ _)
    have Vr := qh (show af (dU w6 w1.heap.size (.int .i64 4) (.int .i64 o) (.string ⟨#[]⟩) (.int .i64 0) (.int .i64 0) (.string ⟨#[]⟩) (.slice none 0 0) (.slice (some ⟨w5.heap.size, 0, none⟩) 2 2)) w.heap.size 27 #[.int .i64 0, .int .i64 0, .string ⟨#[]⟩, .int .i64 0, .int .i64 0, .string ⟨#[]⟩, .slice none 0 0, .slice none 0 0] by
     have h1 := ((((dL.out.below (Below.refl _ _).drew dL.out.lt).kp hk5 (by omega)).alloc (.cells #[.int .i64 gu, .int .i64 gy, .string gz, .int .i64 gG, .int .i64 gI, .string gJ, .slice gK gQ gU, .slice gV gW gX, .int .i64 lU, .int .i64 lV, .string lW, .int .i64 lX, .int .i64 lY, .string lZ, .slice l7 l9 mf, .slice mg mi mr] 27 (0, 0))).below hb6 (by have := hb6.size; simp at *; omega))
     (try unfold ZB); unfold af
     rw [dD _ _ _ _ _ _ _ _ _ _ _ (by omega)]
     exact h1)
    have HYN := qh (RX.dU (b := w1.heap.size) (RX.two o (((YB.out.keep (dG.of (Below.refl _ _).drew)).up (by simp)).N7 hk5 (fun k hk => by omega)) (hx5.imp (q := (fun b => W.heap.size ≤ b ∧ b ≠ w1.heap.size)) (fun k hk _ => by simp at hk; exact ⟨by omega, by omega⟩)) hb6 (fun k hk => ⟨by omega, by omega⟩)) (fun k hk => hk.2) (.int .i64 4) (.int .i64 o) (.string ⟨#[]⟩) (.int .i64 0) (.int .i64 0) (.string ⟨#[]⟩) (.slice none 0 0) (.slice (some ⟨w5.heap.size, 0, none⟩) 2 2))
    have HRN := qh (show R = (r2.bind fun es l => .ok [bQ o ([y] ++ es)] l).bind fun es l => Pz s.data.toList.length .fH es l by
     rw [rF.out]; cases r2 <;> rfl)
    have FD := qh (show (aX (r2.bind fun es l => .ok [bQ o ([y] ++ es)] l)).l.length < (aX r).l.length by
     rw [dH (f := fun es => [bQ o ([y] ++ es)])]
     exact fO.out)
    try go_wp2_with fail
    go_roundw
    case rel => exact ⟨_, 4, o, ⟨#[]⟩, 0, 0, ⟨#[]⟩, none, 0, 0, some ⟨w5.heap.size, 0, none⟩, 2, 2, qh (iy B6 _ _ _ _ _ _ _ _), HYN, WL, LX, Vr, HRN, qh (by have h1 := FD.out; have h2 := qJ.out; omega)⟩
    case measure =>
     have h1 := WL.out.len
     have h2 := xY.out.len
     have h3 := FD.out
     rw [← h1, ← h2] at h3
     exact h3
end Go.Proofs.YtobanldeicclmaaGreatDoor
