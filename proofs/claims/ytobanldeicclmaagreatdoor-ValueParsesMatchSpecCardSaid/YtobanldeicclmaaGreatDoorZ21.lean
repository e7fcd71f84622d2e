/- Lemmas for the claim: walks and plain laws. -/
import Derived.Test.YtobanldeicclmaaGreatDoorZ20
import Derived.Test.YtobanldeicclmaaGreatDoorZ16
import Derived.Test.YtobanldeicclmaaGreatDoorZ6
import Derived.Test.YtobanldeicclmaaGreatDoorZ5
import Derived.Test.YtobanldeicclmaaGreatDoorZ9
set_option maxHeartbeats 8000000
set_option maxRecDepth 100000
namespace Go.Proofs.YtobanldeicclmaaGreatDoor
open Go.RowKit Vtx
attribute [local go_sem ↓] Go.wp_at_zero Go.wp_at_succ
noncomputable def RM.C (st : RM) (n : Nat) : jO := match st with
 | .at_ l => (Pz n .sum [] l).bind fun es l1 => if bJ 4 11 l1 = 0 then .ok es l1 else (Pz n .sum [] l1.tail).bind fun es2 l2 => .ok [bQ (bJ 4 11 l1) (es ++ es2)] l2
 | .wr k => .err k
noncomputable def cmpK (n : Nat) (r : jO) : jO := r.bind fun es l1 => if bJ 4 11 l1 = 0 then .ok es l1 else (Pz n .sum [] l1.tail).bind fun es2 l2 => .ok [bQ (bJ 4 11 l1) (es ++ es2)] l2
theorem yS (s : ByteArray) (st : RM) (h : ∀ st' : RM, st'.l.length ≤ st.l.length → MS 114 .sum s st') : MR 90 s st (st.C s.data.toList.length) := by
 intro g w hp hm
 have xk := qh h
 have hlt := hp.lt
 have HM := qh hm
 have qf := qh hp
 obtain ⟨R, hR⟩ := ae (st.C s.data.toList.length)
 have HG := qh (show R = cmpK s.data.toList.length (st.P s.data.toList.length .sum) by
  rw [← hR]
  cases st <;> rfl)
 rw [hR]
 clear h hp hm hR
 go_enter Tryz.func90, Tryz.ntmps90
 go_upto_region 1 with (fail)
 obtain ⟨W, hW, hkW, fV, hszW, hWs, -⟩ := iV g w
 have ny := qh (show dQ W g s st by rw [hW]; exact qf.out.alloc _)
 have oZ := qh (HM.out.kp hkW)
 rw [← hW]
 clear hW
 go_wp2_with fail
 refine (xk.out st (Nat.le_refl _) g W ny.out oZ.out).mono ?_
 rintro e w1 ⟨gu, gy, gz, gG, gI, gJ, gK, gQ, gU, gV, gW, gX, rfl, hs1, hk1, hx1⟩
 obtain ⟨r, hr1⟩ := ae (st.P s.data.toList.length .sum)
 have GX := qh (show (aX r).l.length ≤ st.l.length from hr1 ▸ RM.nU)
 rw [hr1] at hs1 hx1 HG
 have xn := qh hx1
 have LU := hk1.size
 have adg := qh (fV.out.kp hk1 (by omega))
 have qc := qh hs1
 have HKz := qh (hkW.trans hk1)
 clear hs1 hx1 hk1 hr1
 go_wp2_with fail
 obtain ⟨W1, hW1⟩ := au (w1.alloc (.cells #[.int .i64 gu, .int .i64 gy, .string gz, .int .i64 gG, .int .i64 gI, .string gJ, .slice gK gQ gU, .slice gV gW gX] 27 (0, 0)))
 have mW := qh (show Kp g w W1 by rw [hW1]; exact HKz.out.alloc _)
 have xY := qh (show dQ W1 g s (aX r) by rw [hW1]; exact qc.out.alloc _)
 have LY := qh (show ZB W1 w.heap.size by rw [hW1]; exact adg.out.alloc _)
 have adh := qh (show af W1 w1.heap.size 27 #[.int .i64 gu, .int .i64 gy, .string gz, .int .i64 gG, .int .i64 gI, .string gJ, .slice gK gQ gU, .slice gV gW gX] by rw [hW1]; exact af.new w1 _ _)
 have XR := qh (show RX (fun b => W.heap.size ≤ b) W1 r [.int .i64 gu, .int .i64 gy, .string gz, .int .i64 gG, .int .i64 gI, .string gJ, .slice gK gQ gU, .slice gV gW gX] by
  rw [hW1]
  exact xn.out.keep (dG.of ((Below.refl _ _).alloc (Nat.le_refl _) _)))
 have CG : W1.heap.size = w1.heap.size + 1 := by rw [hW1]; simp
 rw [← hW1]
 clear hW1
 have KE := qh (LQ xY.out 4 11 (by decide))
 obtain ⟨o, ho⟩ := ae ((aX r).sg 4 11)
 rw [ho] at KE
 have HO := qh ho
 have hgw : g < W1.heap.size := xY.out.lt
 clear ho
 try go_wp2_with fail
 refine KE.out.mono ?_
 rintro e w4 ⟨rfl, hs4, hk4⟩
 have iK := qh hk4
 have HB4 := qh (adh.out.kp hk4 (by omega))
 have dL := qh (LY.out.kp hk4 (by omega))
 have PY := qh (XR.out.kp hk4 (fun k hk => by omega))
 have LV := qh hk4.size
 have zF := qh (HM.out.kp (mW.out.trans hk4))
 by_cases h0 : o = 0
 ·
  subst h0
  rw [if_pos rfl] at hs4
  have pX := qh hs4
  have B4 := HB4.out
  have FC := dL.out
  clear hs4 hk4
  obtain ⟨CJ, CO, Ea, Eb, Ec, Ed, Ee, Ef⟩ := af.c8 B4
  obtain ⟨aQ, eX, aS, eY, aT, fD, aU, fE, aY, jR, aZ, jS, bu, jT, bz, jU⟩ := af.z8 FC
  go_wp2_with fail
  refine bodyPost_ret (v := .agg #[.int .i64 gu, .int .i64 gy, .string gz, .int .i64 gG, .int .i64 gI, .string gJ, .slice gK gQ gU, .slice gV gW gX]) (by simp [results, Tryz.results90, go_sem, aQ, aS, aT, aU, aY, aZ, bu, bz]) rfl ⟨gu, gy, gz, gG, gI, gJ, gK, gQ, gU, gV, gW, gX, rfl, ?_⟩
  have hend : R = r := by
   rw [HG.out]
   cases hr : r with
   | err k => rfl
   | ok es l =>
    have h1 : bJ 4 11 l = 0 := by have := HO.out; rw [hr] at this; exact this
    exact if_pos h1
  rw [hend]
  exact RR.ret (L := W.heap.size) pX.out (mW.out.trans iK.out) PY.out hWs hlt _ _ _ _ _ _ _ _
 ·
  rw [if_neg h0] at hs4
  have pX := qh hs4
  have Vq := qh h0
  have bo : (o == 0) = false := by simp [h0]
  obtain ⟨tt, rr, hst⟩ := RM.LP (st := aX r) (a := 4) (b := 11) (by rw [HO.out]; exact h0)
  obtain ⟨y, hy⟩ : ∃ y, r = .ok [y] (tt :: rr) ∧ dK w4 (fun b => W.heap.size ≤ b) w4.heap.size y [.int .i64 gu, .int .i64 gy, .string gz, .int .i64 gG, .int .i64 gI, .string gJ, .slice gK gQ gU, .slice gV gW gX] := by
   cases hr : r with
   | err k => rw [hr] at hst; cases hst
   | ok es l =>
    rw [hr] at hst
    injection hst with hst
    subst hst
    obtain ⟨y, h1, h2⟩ := PY.out es _ hr
    exact ⟨y, by rw [h1], h2⟩
  have YB := qh hy.2
  have zQ := qh hy.1
  obtain ⟨r2, hr2⟩ := ae ((aX r).tl.P s.data.toList.length .sum)
  have rF := qh (show R = r2.bind fun es l => .ok [bQ o ([y] ++ es)] l by
   have h1 : bJ 4 11 (tt :: rr) = o := by have := HO.out; rw [zQ.out] at this; exact this
   rw [HG.out, ← hr2, zQ.out]
   show (if bJ 4 11 (tt :: rr) = 0 then _ else _) = _
   rw [if_neg (by rw [h1]; exact Vq.out), h1]
   rfl)
  have HC2 := qh (fun W' hp hm => hr2 ▸ xk.out (aX r).tl (by have h1 := RM.qC hst; have h2 := GX.out; omega) g W' hp hm)
  clear hs4 hk4 h0 hst hy hr2
  have B4 := HB4.out
  obtain ⟨CJ, CO, Ea, Eb, Ec, Ed, Ee, Ef⟩ := af.c8 B4
  go_upto_region 4 with (fail)
  refine wp_region_any (by kernel_rfl) ?_
  change wpAny _ _ _ _ _ _ _ (World.drew _)
  refine wpAny_take (i := 0) (v := ?v5) rfl (by kernel_rfl) (by kernel_rfl) (by kernel_rfl) (fun _ _ _ h => h) (Or.inl ⟨by rfl, ?y5⟩) ?r5
  case y5 =>
   intro w
   go_simp
   all_goals with_reducible rfl
  refine wpAny_take (i := 2) (v := ?v6) rfl (by kernel_rfl) (by kernel_rfl) (by kernel_rfl) (fun _ _ _ h => h) (Or.inl ⟨by rfl, ?y6⟩) ?r6
  case y6 =>
   intro w
   go_simp
   all_goals with_reducible rfl
  refine wpAny_ready (rs := [1, 3]) (by kernel_rfl) (by simp) ?_
  refine AllReady.cons rfl (fun K hK => ?_) ?_
  go_simp
  refine hK _ _ ?_
  clear hK K
  refine ag (i := 3) (by kernel_rfl) rfl (fun K hK => ?_)
  go_simp
  go_wp2_with fail
  refine (HC2.out _ pX.out.drew (zF.out.below (Below.refl _ _).drew)).mono ?_
  rintro e w5 ⟨lU, lV, lW, lX, lY, lZ, l7, l9, mf, mg, mi, mr, rfl, hs5, hk5, hx5⟩
  have B5 := (HB4.out.below (Below.refl _ _).drew HB4.out.lt).kp hk5 (by omega)
  have wE := (dL.out.below (Below.refl _ _).drew dL.out.lt).kp hk5 (by omega)
  obtain ⟨Fp, KC, DZ, NS, Q9, Rf, Rh, PZ⟩ := af.c8 B5
  go_wp2_with fail
  rotate_left
  refine AllReady.cons rfl (fun K hK => ?_) AllReady.nil
  go_simp
  go_wp2_with fail
  refine (HC2.out _ pX.out.drew (zF.out.below (Below.refl _ _).drew)).mono ?_
  rintro e w5 ⟨lU, lV, lW, lX, lY, lZ, l7, l9, mf, mg, mi, mr, rfl, hs5, hk5, hx5⟩
  have B5 := (HB4.out.below (Below.refl _ _).drew HB4.out.lt).kp hk5 (by omega)
  have wE := (dL.out.below (Below.refl _ _).drew dL.out.lt).kp hk5 (by omega)
  obtain ⟨Fp, KC, DZ, NS, Q9, Rf, Rh, PZ⟩ := af.c8 B5
  go_wp2_with fail
  refine ag (i := 1) (by kernel_rfl) rfl (fun K hK => ?_)
  go_simp
  refine hK _ _ ?_
  clear hK K
  rotate_left
  all_goals
   refine ag (i := 4) (by kernel_rfl) rfl (fun K hK => ?_)
   go_simp
   refine hK _ _ ?_
   clear hK K
   refine ag (i := 5) (by kernel_rfl) rfl (fun K hK => ?_)
   go_simp
   go_wp2_with fail
   refine (oO o _ 2 2 _).mono ?_
   rintro e w6 ⟨rfl, hb6⟩
   have B6 := (wE.alloc (.cells #[.int .i64 gu, .int .i64 gy, .string gz, .int .i64 gG, .int .i64 gI, .string gJ, .slice gK gQ gU, .slice gV gW gX, .int .i64 lU, .int .i64 lV, .string lW, .int .i64 lX, .int .i64 lY, .string lZ, .slice l7 l9 mf, .slice mg mi mr] 27 (0, 0))).below hb6 (wE.alloc _).lt
   obtain ⟨aQ, eX, aS, eY, aT, fD, aU, fE, aY, jR, aZ, jS, bu, jT, bz, jU⟩ := af.z8 B6
   go_wp2_with fail
   refine ag (i := 6) (by kernel_rfl) rfl (fun K hK => ?_)
   go_simp
   refine hK _ _ ?_
   clear hK K
   refine wpAny_done (by kernel_rfl) ?_ _
   have Uk := hk5.size
   have WJ : w4.heap.size ≤ w5.heap.size := by simpa using Uk
   have hs4 := LV.out
   try go_wp2_with fail
   refine bodyPost_ret (v := .agg #[.int .i64 4, .int .i64 o, .string ⟨#[]⟩, .int .i64 0, .int .i64 0, .string ⟨#[]⟩, .slice none 0 0, .slice (some ⟨w5.heap.size, 0, none⟩) 2 2]) (by simp [results, Tryz.results90, go_sem, aQ, aS, aT, aU, aY, aZ, bu, bz]) rfl ⟨4, o, ⟨#[]⟩, 0, 0, ⟨#[]⟩, none, 0, 0, some ⟨w5.heap.size, 0, none⟩, 2, 2, rfl, ?_⟩
   rw [rF.out]
   refine RR.ret (L := W.heap.size) ?_ ((((mW.out.trans iK.out).trans ((Kp.of (Below.refl _ _).drew).trans hk5)).alloc (.cells #[.int .i64 gu, .int .i64 gy, .string gz, .int .i64 gG, .int .i64 gI, .string gJ, .slice gK gQ gU, .slice gV gW gX, .int .i64 lU, .int .i64 lV, .string lW, .int .i64 lX, .int .i64 lY, .string lZ, .slice l7 l9 mf, .slice mg mi mr] 27 (0, 0))).trans (Kp.of hb6)) (RX.two o (((YB.out.keep (dG.of (Below.refl _ _).drew)).up (by simp)).N7 hk5 (fun k hk => by omega)) (hx5.imp (fun k hk _ => by simp at hk; omega)) hb6 (fun k hk => by omega)) hWs hlt _ _ _ _ _ _ _ _
   rw [dH (f := fun es => [bQ o ([y] ++ es)])]
   exact (hs5.alloc (.cells #[.int .i64 gu, .int .i64 gy, .string gz, .int .i64 gG, .int .i64 gI, .string gJ, .slice gK gQ gU, .slice gV gW gX, .int .i64 lU, .int .i64 lV, .string lW, .int .i64 lX, .int .i64 lY, .string lZ, .slice l7 l9 mf, .slice mg mi mr] 27 (0, 0))).below hb6
theorem FH (s : ByteArray) (st : RM) (hN : ∀ st' : RM, st'.l.length < st.l.length → MS 60 .not s st') (hC : MR 90 s st (st.C s.data.toList.length)) : MS 60 .not s st := by
 intro g w hp hm
 have zM := qh hN
 have ZA := qh hC
 have hlt := hp.lt
 have HM := qh hm
 have qf := qh hp
 obtain ⟨b, hb⟩ := ae (st.is Gf)
 have lu := qh hb
 obtain ⟨R, hR⟩ := ae (st.P s.data.toList.length .not)
 have HG := qh (show R = if b = true then (st.tl.P s.data.toList.length .not).bind fun es l => .ok [bQ 1 es] l else st.C s.data.toList.length by
  rw [← hR, ← hb]
  cases st with
  | at_ l =>
   show Pz s.data.toList.length .not [] l = _
   rw [bW]
   dsimp only [dB]
   rw [← jI l (word := Gf) (by decide) (by decide)]
   rfl
  | wr k => rfl)
 rw [hR]
 clear hN hC hp hm hR hb
 go_enter Tryz.func60, Tryz.ntmps60
 go_upto_region 1 with (fail)
 obtain ⟨W, hW, hkW, fV, hszW, hWs, -⟩ := iV g w
 have ny := qh (show dQ W g s st by rw [hW]; exact qf.out.alloc _)
 have oZ := qh (HM.out.kp hkW)
 rw [← hW]
 clear hW
 have lh := qh (yQ ny.out Gf)
 rw [show tb Gf = ⟨#[110, 111, 116]⟩ from rfl, lu.out] at lh
 have hgW : g < W.heap.size := ny.out.lt
 go_wp2_with fail
 refine lh.out.mono ?_
 rintro e w2 ⟨rfl, hs2, hk2⟩
 have hsz2 := hk2.size
 have iC := qh (fV.out.kp hk2 (by omega))
 have mG := qh (hkW.trans hk2)
 cases b
 ·
  rw [if_neg (by decide)] at hs2
  have HG := qh (HG.out.trans (if_neg (by decide)))
  go_wp2_with fail
  refine (ZA.out g w2 hs2 (HM.out.kp mG.out)).mono ?_
  rintro e w5 ⟨gu, gy, gz, gG, gI, gJ, gK, gQ, gU, gV, gW, gX, rfl, hs5, hk5, hx5⟩
  have wE := iC.out.kp hk5 (by omega)
  rw [← HG.out] at hs5 hx5
  obtain ⟨aQ, eX, aS, eY, aT, fD, aU, fE, aY, jR, aZ, jS, bu, jT, bz, jU⟩ := af.z8 wE
  go_wp2_with fail
  refine bodyPost_ret (v := .agg #[.int .i64 gu, .int .i64 gy, .string gz, .int .i64 gG, .int .i64 gI, .string gJ, .slice gK gQ gU, .slice gV gW gX]) (by simp [results, Tryz.results60, go_sem, aQ, aS, aT, aU, aY, aZ, bu, bz]) rfl ⟨gu, gy, gz, gG, gI, gJ, gK, gQ, gU, gV, gW, gX, rfl, ?_⟩
  exact RR.ret (L := W.heap.size) hs5 (mG.out.trans hk5) (hx5.imp (fun k hk _ => by omega)) hWs hlt _ _ _ _ _ _ _ _
 ·
  rw [if_pos rfl] at hs2
  have HG2 := qh (HG.out.trans (if_pos rfl))
  obtain ⟨t, rr, hst, -⟩ := RM.yP lu.out
  have HC2 := qh (fun W' hp hm => zM.out st.tl (by have := RM.qC hst; omega) g W' hp hm)
  obtain ⟨r2, hr2⟩ := ae (st.tl.P s.data.toList.length .not)
  rw [hr2] at HC2 HG2
  clear hst hr2 HG
  go_wp2_with fail
  refine (HC2.out w2 hs2 (HM.out.kp mG.out)).mono ?_
  rintro e w5 ⟨gu, gy, gz, gG, gI, gJ, gK, gQ, gU, gV, gW, gX, rfl, hs5, hk5, hx5⟩
  have sK := qh (iC.out.kp hk5 (by omega))
  have Eh := qh hs5
  have tX := qh hx5
  have hsz5 := hk5.size
  clear hs5 hx5
  go_wp2_with fail
  refine (oO 1 _ 1 1 _).mono ?_
  rintro e w6 ⟨rfl, hb6⟩
  have B6 := (sK.out.alloc (.cells #[.int .i64 gu, .int .i64 gy, .string gz, .int .i64 gG, .int .i64 gI, .string gJ, .slice gK gQ gU, .slice gV gW gX] 27 (0, 0))).below hb6 (sK.out.alloc _).lt
  obtain ⟨aQ, eX, aS, eY, aT, fD, aU, fE, aY, jR, aZ, jS, bu, jT, bz, jU⟩ := af.z8 B6
  go_wp2_with fail
  refine bodyPost_ret (v := .agg #[.int .i64 4, .int .i64 1, .string ⟨#[]⟩, .int .i64 0, .int .i64 0, .string ⟨#[]⟩, .slice none 0 0, .slice (some ⟨w5.heap.size, 0, none⟩) 1 1]) (by simp [results, Tryz.results60, go_sem, aQ, aS, aT, aU, aY, aZ, bu, bz]) rfl ⟨4, 1, ⟨#[]⟩, 0, 0, ⟨#[]⟩, none, 0, 0, some ⟨w5.heap.size, 0, none⟩, 1, 1, rfl, ?_⟩
  rw [HG2.out]
  refine RR.ret (L := W.heap.size) ?_ (((mG.out.trans hk5).alloc (.cells #[.int .i64 gu, .int .i64 gy, .string gz, .int .i64 gG, .int .i64 gI, .string gJ, .slice gK gQ gU, .slice gV gW gX] 27 (0, 0))).trans (Kp.of hb6)) (RX.one 1 (tX.out.imp (fun k hk _ => by omega)) hb6 (fun k hk => by omega)) hWs hlt _ _ _ _ _ _ _ _
  rw [dH (f := fun es => [bQ 1 es])]
  exact (Eh.out.alloc (.cells #[.int .i64 gu, .int .i64 gy, .string gz, .int .i64 gG, .int .i64 gI, .string gJ, .slice gK gQ gU, .slice gV gW gX] 27 (0, 0))).below hb6
end Go.Proofs.YtobanldeicclmaaGreatDoor
namespace Go.Proofs.YtobanldeicclmaaGreatDoor
open Go.RowKit Vtx
theorem vO {s : List UInt8} {i : Nat} {t : Tok} (h : bV s i = some t) {w : List UInt8} (e : t.tx = 40 :: w) : t.tx = [40] := by
 obtain ⟨-, hlt, -, -, -, htx, -⟩ := dW h
 rw [drop_cons hlt] at htx
 obtain ⟨c, hc⟩ := ae (s.getD t.at_ 0)
 obtain ⟨r, hr⟩ := ae (s.drop (t.at_ + 1))
 rw [hc, hr, e] at htx
 have hp := uC c r
 obtain ⟨m, hm⟩ : ∃ m, aJ (c :: r) = m + 1 := ⟨aJ (c :: r) - 1, by omega⟩
 rw [hm, List.take_succ_cons] at htx
 injection htx with h1 h2
 subst h1
 have hl : aJ (40 :: r) = 1 := by
  rw [aJ, if_neg (by decide), if_neg (by decide), if_neg (by decide), if_neg (by decide), if_neg (by decide), if_neg (by decide)]
  cases r with
  | nil => rfl
  | cons d r => show (if F9 40 d then 2 else 1) = 1; rw [if_neg (by simp [F9])]
 have hm0 : m = 0 := by omega
 rw [e, h2, hm0]
 rfl
theorem vP {s : List UInt8} {x : Val} (h : aV x = 0) (he : showT x.k x.n x.s.data.toList x.l = s) : fQ s = some x := by
 rw [← he]; exact KP h
theorem LZ {w : List UInt8} {k : Nat} (h1 : 0 < k) (h7 : k < 7) (hy : pF (k : Nat) = w) : cZ w = (k : Nat) := by
 subst hy
 obtain rfl | rfl | rfl | rfl | rfl | rfl : k = 1 ∨ k = 2 ∨ k = 3 ∨ k = 4 ∨ k = 5 ∨ k = 6 := by omega
 all_goals decide
theorem Qd {w : List UInt8} (h : ∀ k : Nat, 0 < k → k < 7 → pF (k : Nat) ≠ w) : cZ w = 0 := by
 have h1 := h 1 (by omega) (by omega)
 have h2 := h 2 (by omega) (by omega)
 have h3 := h 3 (by omega) (by omega)
 have h4 := h 4 (by omega) (by omega)
 have h5 := h 5 (by omega) (by omega)
 have h6 := h 6 (by omega) (by omega)
 unfold cZ
 rw [List.find?_eq_none.2 (fun o ho => ?_)]
 simp only [List.mem_cons, List.not_mem_nil, or_false] at ho
 rw [decide_eq_true_iff]
 rcases ho with rfl | rfl | rfl | rfl | rfl | rfl
 ·
  exact h1
 ·
  exact h2
 ·
  exact h3
 ·
  exact h4
 ·
  exact h5
 ·
  exact h6
theorem WM (k : Nat) (h : k < yJ.length) : yJ[k] = tb (pF (k : Nat)) := by
 have h7 : k < 7 := h
 obtain rfl | rfl | rfl | rfl | rfl | rfl | rfl : k = 0 ∨ k = 1 ∨ k = 2 ∨ k = 3 ∨ k = 4 ∨ k = 5 ∨ k = 6 := by omega
 all_goals rfl
theorem Ul (w : List UInt8) : 0 ≤ cZ w := by
 unfold cZ
 split
 ·
  rename_i o ho
  have := List.mem_of_find?_eq_some ho
  simp only [List.mem_cons, List.not_mem_nil, or_false] at this
  omega
 ·
  exact Int.le_refl _
theorem YC (w : List UInt8) : 0 ≤ gm w ∧ gm w ≤ 39 ∧ (gm w ≠ 0 → 12 ≤ gm w) := by
 unfold gm
 split
 ·
  rename_i o ho
  have h1 := List.mem_of_find?_eq_some ho
  have h2 : (uA.all fun p => decide (12 ≤ p.1 ∧ p.1 ≤ 39)) = true := by decide
  have h3 := List.all_eq_true.1 h2 o h1
  rw [decide_eq_true_iff] at h3
  omega
 ·
  exact ⟨Int.le_refl _, by decide, fun h => absurd rfl h⟩
end Go.Proofs.YtobanldeicclmaaGreatDoor
namespace Go.Proofs.YtobanldeicclmaaGreatDoor
open Go.RowKit Vtx
attribute [local go_sem ↓] Go.wp_at_zero Go.wp_at_succ
def adi (w : World) (g : Nat) (s : ByteArray) (r : jO) (e : Ending) (w' : World) : Prop := match r with
 | .ok es l' => ∃ i css A c, l' = wordsOf s.data.toList i ∧ e = .returned (.slice A es.length c) ∧ iw w' (fun b => w.heap.size ≤ b) es css ∧ w'.ownsRow w.heap.size 27 8 (.slice A es.length c) es.length css.flatten ∧ es.length ≤ 4001 ∧ aP w' g s i ∧ Kp g w w'
 | .err k => e = Fv k ∧ Kp g w w'
theorem own_base {w : World} {B B' size n : Nat} {e : TypeId} {v : Value} {xs : List Value} (h : w.ownsRow B e size v n xs) (hB : B' ≤ B) : w.ownsRow B' e size v n xs := by
 refine ⟨h.1, h.2.imp id ?_⟩
 rintro ⟨g', cap, cur, e0, e1, e2⟩
 exact ⟨g', cap, cur, e0, Nat.le_trans hB e1, e2⟩
theorem Ei (g : Nat) (s : ByteArray) (i : Nat) (w : World) (h : aP w g s i) (hm : TM w g) (o : Int) (L : List Tok) (hL : wordsOf s.data.toList i = L) (hP : ∀ L', L'.length ≤ L.length → fK 31 .or s L') :
  Calls Tryz.prog 185 #[.pointer (some ⟨g, 0, none⟩), .int .i64 o] w fun e w' => adi w g s (Pz s.data.toList.length (.args o) [] L) e w' := by
 have hlt := h.b.lt
 have hargs : Pz s.data.toList.length (.args o) [] L = (Pz s.data.toList.length .or [] L).bind fun es l1 => Pz s.data.toList.length (.lS o) es l1 := by rw [bW]; rfl
 rw [hargs]
 have H1 := qh (hP L (Nat.le_refl _) g i w h hm hL)
 have HM := qh hm
 obtain ⟨r, hr⟩ := ae (Pz s.data.toList.length .or [] L)
 rw [hr] at H1 ⊢
 have HR := qh hr
 have jD := qh h
 obtain ⟨lo, hlo⟩ := ae ((iU o).1)
 obtain ⟨hi, hhi⟩ := ae ((iU o).2)
 have GM := qh (And.intro hlo hhi)
 have har : Ym o = .tuple #[.int .i64 (lo : Nat), .int .i64 (hi : Nat)] := by unfold Ym; rw [hlo, hhi]
 have XB := qh (fun w' => har ▸ Fg o w')
 clear hr h hm hargs hlo hhi har
 go_enter Tryz.func185, Tryz.ntmps185
 go_wp2_with (go_at_call 97; (with_reducible refine (XB.out _).mono ?_); rintro e w3 ⟨rfl, rfl⟩)
 refine H1.out.mono ?_
 cases r with
 | err k =>
  rintro e w1 ⟨rfl, hk1⟩
  go_wp2_with fail
  exact ⟨rfl, rfl, hk1⟩
 | ok es l1 =>
  rintro e w1 ⟨x, i1, cs1, rfl, rfl, rfl, hx1, hp1, hk1⟩
  have xn := qh hx1
  obtain ⟨hn1, hs1, hl1, ha1, uS, uT, hii1⟩ := hx1
  rename_i A1 c1 A2 c2 Jr
  clear uS uT hii1 hn1 hs1 hl1 ha1
  have oq : (ai x A1 c1 A2 c2).toArray = #[.int .i64 x.k, .int .i64 x.op, .string x.nm, .int .i64 x.v.k, .int .i64 x.v.n, .string x.v.s, .slice A1 x.v.l.length c1, .slice A2 x.ar.length c2] := rfl
  rw [oq]
  clear oq
  have Ih := qh hp1
  have ahj := qh hk1
  have hsw := hk1.size
  clear hp1
  go_wp2_with fail
  obtain ⟨W2, hW2⟩ := au (w1.alloc (.cells #[.int .i64 x.k, .int .i64 x.op, .string x.nm, .int .i64 x.v.k, .int .i64 x.v.n, .string x.v.s, .slice A1 x.v.l.length c1, .slice A2 x.ar.length c2] 27 (0, 0)))
  have mG := qh (show Kp g w W2 by rw [hW2]; exact hk1.alloc _)
  have HP2 := qh (show aP W2 g s i1 by rw [hW2]; exact Ih.out.alloc _)
  have HO2 := qh (show W2.ownsRow w1.heap.size 27 8 (.slice (some ⟨w1.heap.size, 0, none⟩) 1 1) 1 (ai x A1 c1 A2 c2) by rw [hW2]; exact qB (af.new w1 _ _) (Nat.le_refl _) rfl)
  have Ii := qh (show dK W2 (fun b => w.heap.size ≤ b ∧ b ≠ w1.heap.size) W2.heap.size x (ai x A1 c1 A2 c2) by
   have h1 := xn.out.imp (q := fun b => w.heap.size ≤ b ∧ b ≠ w1.heap.size) (fun k hk hl => ⟨hk, by omega⟩)
   rw [hW2]
   exact (h1.keep (dG.of ((Below.refl _ _).alloc (Nat.le_refl _) _))).up (by simp))
  have hsz2 : W2.heap.size = w1.heap.size + 1 := by rw [hW2]; simp
  rw [← hW2]
  clear hW2 hk1
  obtain ⟨R, hR⟩ := ae (Pz s.data.toList.length (.lS o) [x] (wordsOf s.data.toList i1))
  have HRR := qh hR.symm
  have zA : ((jO.ok [x] (wordsOf s.data.toList i1)).bind fun es l1 => Pz s.data.toList.length (.lS o) es l1) = R := hR
  have HG := qh zA
  clear zA hR
  go_loopw [7] (fun v wr => ∃ (acc : List Ex) (css : List (List Value)) (A : Option Addr) (c i2 : Nat), v = .slice A acc.length c ∧ Hid (iw wr (fun b => w.heap.size ≤ b ∧ some b ≠ (Value.slice A acc.length c).ownBlock) acc css) ∧ Hid (wr.ownsRow w1.heap.size 27 8 (.slice A acc.length c) acc.length css.flatten) ∧ Hid (w1.heap.size ≤ wr.heap.size) ∧ Hid (aP wr g s i2) ∧ Hid (Kp g w wr) ∧ Hid (R = Pz s.data.toList.length (.lS o) acc (wordsOf s.data.toList i2)) ∧ Hid (acc.length + (wordsOf s.data.toList i2).length ≤ 4001 ∧ (wordsOf s.data.toList i2).length ≤ L.length) ∧ Hid (1 ≤ acc.length)) (fun v _ => 4001 - (match v with
   | .slice _ n _ => n
   | _ => 0))
  case atStart =>
   refine ⟨[x], [ai x A1 c1 A2 c2], some ⟨w1.heap.size, 0, none⟩, 1, i1, rfl, ?_, ?_, ?_, HP2, mG, HRR, ?_, qh (Nat.le_refl _)⟩
   ·
    exact qh (iw.one (Ii.out.imp (fun k hk _ => ⟨hk.1, fun e => hk.2 (by injection e)⟩)))
   ·
    exact qh (by simpa using HO2.out)
   ·
    exact qh (by omega)
   ·
    have h1 := rV HR.out
    have h2 := qU s.data.toList (s.data.toList.length + 1) i1
    rw [ak] at h2
    have h3 : (wordsOf s.data.toList i1).length ≤ 4000 := by have := Ih.out.s; unfold wordsOf; rw [ak]; omega
    exact qh ⟨by simp; omega, h1⟩
  case round =>
   obtain ⟨acc, css, A, c, i2, rfl, HE, HO, GH, PE, qI, uO, qJ, Wi⟩ := hrel
   obtain ⟨b2, hb2⟩ := ae (kU (wordsOf s.data.toList i2) [44])
   have HI2 := qh (uM g s i2 wr PE.out [44] (by decide))
   rw [hb2, show tb [44] = ⟨#[44]⟩ from rfl] at HI2
   have lu := qh hb2
   clear hb2
   by_cases hl : acc.length < lo
   ·
    have hli : ((acc.length : Nat) : Int) < ((lo : Nat) : Int) := by omega
    have Ej := qh (show acc.length < (iU o).1 by rw [GM.out.1]; exact hl)
    cases b2
    ·
     have lh := qh (take_any g s i2 wr PE.out [44] (by decide))
     rw [lu.out, show tb [44] = ⟨#[44]⟩ from rfl] at lh
     have adk := qh (show Calls Tryz.prog 169 #[.pointer (some ⟨g, 0, none⟩), .string ⟨#[44]⟩] wr fun e w' => e = Fv (aO s i2) ∧ wr = w' from lh.out.mono (fun e w' h => by rw [if_neg (by decide)] at h; exact h))
     have hend : R = .err (aO s i2) := by rw [uO.out, bW]; dsimp only [dB]; rw [if_pos (.inl Ej.out)]; unfold aN; rw [if_neg (by rw [lu.out]; decide), lT]
     have eH := qh hend
     clear hend lh
     go_wp2_with (go_at_call 169; (with_reducible refine adk.out.mono ?_); rintro e w4 ⟨rfl, rfl⟩)
     refine ⟨rfl, ?_⟩
     rw [HG.out, eH.out]
     exact ⟨rfl, qI.out⟩
    ·
     clear hl
     have lh := qh (take_any g s i2 wr PE.out [44] (by decide))
     rw [show tb [44] = ⟨#[44]⟩ from rfl] at lh
     have htl := kL lu.out
     obtain ⟨i3, hi3⟩ := ae (aO s i2 + (aH s i2).length)
     rw [hi3] at lh htl
     have YD := qh (show Calls Tryz.prog 169 #[.pointer (some ⟨g, 0, none⟩), .string ⟨#[44]⟩] wr fun e w' => e = .returned (.tuple #[]) ∧ aP w' g s i3 ∧ Kp g wr w' from lh.out.mono (fun e w' h => by rw [lu.out, if_pos rfl] at h; exact h))
     have jW := qh htl
     have HCD := qh (show acc.length < (iU o).1 ∨ (kU (wordsOf s.data.toList i2) [44] = true ∧ acc.length < (iU o).2) from .inl Ej.out)
     clear hi3 htl lh
     go_wp2_with (first | (go_at_call 169; (with_reducible refine YD.out.mono ?_); rintro e w4 ⟨rfl, wu, hk4⟩; have vU := qh wu; have iK := qh hk4; clear wu hk4))
     have hcall := hP (wordsOf s.data.toList i3) (by have := jW.out.2; have := qJ.out.2; omega) g i3 _ vU.out (HM.out.kp (qI.out.trans iK.out)) rfl
     obtain ⟨r2, hr2⟩ := ae (Pz s.data.toList.length .or [] (wordsOf s.data.toList i3))
     rw [hr2] at hcall
     refine hcall.mono ?_
     cases r2 with
     | err k =>
      rintro e w5 ⟨rfl, hk5⟩
      have hend : R = .err k := by rw [uO.out, bW]; dsimp only [dB]; rw [if_pos HCD.out]; unfold aN; rw [if_pos lu.out, ← jW.out.1]; dsimp only; rw [hr2]; rfl
      go_wp2_with fail
      refine ⟨rfl, ?_⟩
      rw [HG.out, hend]
      exact ⟨rfl, (qI.out.trans iK.out).trans hk5⟩
     | ok es2 l2 =>
      rintro e w5 ⟨y, i4, ycs, rfl, rfl, rfl, hy, xG, hk5⟩
      have HY := qh hy
      obtain ⟨hn3, hs3, hl3, XI, hx3, hr3, hi3⟩ := hy
      rename_i A3 c3 A4 c4 aan
      clear hx3 hr3 hi3
      rw [show (ai y A3 c3 A4 c4).toArray = #[.int .i64 y.k, .int .i64 y.op, .string y.nm, .int .i64 y.v.k, .int .i64 y.v.n, .string y.v.s, .slice A3 y.v.l.length c3, .slice A4 y.ar.length c4] from rfl]
      have ng := iK.out.trans hk5
      have hgW : g < w1.heap.size := by have := Ih.out.b.lt; omega
      have Jn := qh (nN HO.out ng hgW)
      have rq := qh (qI.out.trans ng)
      have D5 := qh ng
      have D6 := qh xG
      have hb5 : w1.heap.size ≤ w5.heap.size := Nat.le_trans GH.out ng.size
      obtain ⟨i0, hi0, hz0, hz1, hz2⟩ := info_parts BM
      have hal : acc.length ≤ 4001 := by have := qJ.out.1; omega
      go_wp2_with (at_builtin; refine wpList_append_lies _ rfl _ _ 25 rfl w1.heap.size 27 i0 (.agg #[.int .i64 0, .int .i64 0, .string ⟨#[]⟩, .int .i64 0, .int .i64 0, .string ⟨#[]⟩, .slice none 0 0, .slice none 0 0]) 8 112 Tryz.underlying25 hi0 hz0 hz1 hz2 rfl (by decide) _ _ _ rfl (Jn.out.alloc _) ⟨w5.heap.size, 0, none⟩ 1 1 [.int .i64 y.k, .int .i64 y.op, .string y.nm, .int .i64 y.v.k, .int .i64 y.v.n, .string y.v.s, .slice A3 y.v.l.length c3, .slice A4 y.ar.length c4] rfl rfl ?d1 ?d2 (by decide) ?d3 ?d4 ?d5 _ rfl ?_)
      case d1 => exact World.news_of_block (af.new w5 27 _)
      case d2 => intro u hu; simp only [List.mem_cons, List.not_mem_nil, or_false] at hu; rcases hu with rfl | rfl | rfl | rfl | rfl | rfl | rfl | rfl <;> rfl
      case d3 => unfold maxLen; omega
      case d4 => omega
      case d5 => simp; omega
      intro g7 cap w7 ig kC kV ru
      go_wp2_with fail
      go_roundw
      case rel =>
       have hob : ∀ k, (Value.slice A acc.length c).ownBlock = some k → w1.heap.size ≤ k := fun k hk => (Jn.out.lt k hk).1
       have hs7 := kC.size
       have hgb : w7.heap[g]? = w5.heap[g]? := (kC.block g (by have := D6.out.b.lt; simp; omega) (fun e => by have := hob g e.symm; omega)).trans (Below.heap_alloc w5 _ g D6.out.b.lt)
       refine ⟨acc ++ [y], css ++ [ai y A3 c3 A4 c4], some ⟨g7, 0, none⟩, cap, i4, by simp, ?_, ?_, ?_, qh (D6.out.kp hgb), ?_, ?_, ?_, ?_⟩
       ·
        have h1 := HE.out.imp (q := fun b => (w.heap.size ≤ b ∧ some b ≠ (Value.slice A acc.length c).ownBlock) ∧ some b ≠ some g7) (fun k hk hl => ⟨hk, fun e => by
         injection e with e
         rcases kV with h | h
         ·
          exact hk.2 (by rw [h, e])
         ·
          have := ng.size
          try simp at h
          omega⟩)
        have h2 := (h1.keep (w' := w7) ⟨by have := ng.size; simp at hs7; omega, fun k hk hl => by
         have hz := ng.size
         rw [kC.block k (by simp; omega) hk.1.2, Below.heap_alloc w5 _ k (by omega)]
         exact ng.block k hl (fun e => by injection e with e; have := hk.1.1; omega)⟩).imp (q := fun b => w.heap.size ≤ b ∧ some b ≠ (Value.slice (some ⟨g7, 0, none⟩) (acc ++ [y]).length cap).ownBlock) (fun k hk _ => ⟨hk.1.1, hk.2⟩)
        have hwo : ∀ k, (Value.slice A acc.length c).ownBlock = some k → k < wr.heap.size := fun k hk => (HO.out.lt k hk).2
        have hz4 := iK.out.size
        have hz1 := GH.out
        have h3 := HY.out.imp (q := fun b => b < w5.heap.size ∧ (w.heap.size ≤ b ∧ some b ≠ (Value.slice (some ⟨g7, 0, none⟩) (acc ++ [y]).length cap).ownBlock) ∧ some b ≠ (Value.slice A acc.length c).ownBlock) (fun k hk hl => ⟨hl, ⟨by omega, fun e => by
         have e' : k = g7 := by injection e
         rcases kV with h | h
         ·
          have := hwo g7 h
          omega
         ·
          try simp at h
          omega⟩, fun e => by
         have := hwo k e.symm
         omega⟩)
        have h4 := ((h3.keep (w' := w7) ⟨by simp at hs7; omega, fun k hk hl => by
         rw [kC.block k (by simp; omega) hk.2.2, Below.heap_alloc w5 _ k hl]⟩).up (B' := w7.heap.size) (by simp at hs7; omega)).imp (q := fun b => w.heap.size ≤ b ∧ some b ≠ (Value.slice (some ⟨g7, 0, none⟩) (acc ++ [y]).length cap).ownBlock) (fun k hk _ => hk.2.1)
        exact qh (h2.snoc h4)
       ·
        have e1 : (acc ++ [y]).length = acc.length + 1 := by simp
        have e2 : (css ++ [ai y A3 c3 A4 c4]).flatten = css.flatten ++ ai y A3 c3 A4 c4 := by simp
        rw [e1, e2]
        exact qh ig
       ·
        exact qh (by simp at hs7; omega)
       ·
        exact qh ((rq.out.alloc _).grown kC (fun k hk => by
         have h1 := hob k hk
         omega))
       ·
        have h1 : R = Pz s.data.toList.length (.lS o) (acc ++ [y]) (wordsOf s.data.toList i4) := by rw [uO.out, bW]; dsimp only [dB]; rw [if_pos HCD.out]; unfold aN; rw [if_pos lu.out, ← jW.out.1]; dsimp only; rw [hr2]; rfl
        exact qh h1
       ·
        have h1 := rV hr2
        have h2 := jW.out.2
        have h3 := qJ.out
        exact qh ⟨by simp; omega, by omega⟩
       ·
        exact qh (by simp)
      case measure =>
       have h1 := qJ.out.1
       have h2 := jW.out.2
       simp
       omega
   ·
    have hli : ¬ ((acc.length : Nat) : Int) < ((lo : Nat) : Int) := by omega
    have Ic := qh (show ¬ acc.length < (iU o).1 by rw [GM.out.1]; exact hl)
    cases b2
    ·
     clear hl
     have hend : R = .ok acc (wordsOf s.data.toList i2) := by rw [uO.out, bW]; dsimp only [dB]; rw [if_neg (fun h => by rcases h with h | h; exact Ic.out h; exact absurd (h.1.symm.trans lu.out) (by decide))]
     have eH := qh hend
     clear hend
     go_wp2_with (go_at_call 84; (with_reducible refine HI2.out.mono ?_); rintro e w3 ⟨rfl, rfl⟩)
     go_ret
     rw [HG.out, eH.out]
     exact ⟨i2, css, A, c, rfl, by rfl, HE.out.imp (fun k hk _ => hk.1), own_base HO.out (by omega), by have := qJ.out.1; omega, PE.out, qI.out⟩
    ·
     by_cases hh : acc.length < hi
     ·
      have hhi : ((acc.length : Nat) : Int) < ((hi : Nat) : Int) := by omega
      have HCH := qh (show acc.length < (iU o).2 by rw [GM.out.2]; exact hh)
      clear hl hh
      have lh := qh (take_any g s i2 wr PE.out [44] (by decide))
      rw [show tb [44] = ⟨#[44]⟩ from rfl] at lh
      have htl := kL lu.out
      obtain ⟨i3, hi3⟩ := ae (aO s i2 + (aH s i2).length)
      rw [hi3] at lh htl
      have YD := qh (show Calls Tryz.prog 169 #[.pointer (some ⟨g, 0, none⟩), .string ⟨#[44]⟩] wr fun e w' => e = .returned (.tuple #[]) ∧ aP w' g s i3 ∧ Kp g wr w' from lh.out.mono (fun e w' h => by rw [lu.out, if_pos rfl] at h; exact h))
      have jW := qh htl
      have HCD := qh (show acc.length < (iU o).1 ∨ (kU (wordsOf s.data.toList i2) [44] = true ∧ acc.length < (iU o).2) from .inr ⟨lu.out, HCH.out⟩)
      clear hi3 htl lh
      go_wp2_with (first | (go_at_call 169; (with_reducible refine YD.out.mono ?_); rintro e w4 ⟨rfl, wu, hk4⟩; have vU := qh wu; have iK := qh hk4; clear wu hk4) | (go_at_call 84; (with_reducible refine HI2.out.mono ?_); rintro e w3 ⟨rfl, rfl⟩))
      have hcall := hP (wordsOf s.data.toList i3) (by have := jW.out.2; have := qJ.out.2; omega) g i3 _ vU.out (HM.out.kp (qI.out.trans iK.out)) rfl
      obtain ⟨r2, hr2⟩ := ae (Pz s.data.toList.length .or [] (wordsOf s.data.toList i3))
      rw [hr2] at hcall
      refine hcall.mono ?_
      cases r2 with
      | err k =>
       rintro e w5 ⟨rfl, hk5⟩
       have hend : R = .err k := by rw [uO.out, bW]; dsimp only [dB]; rw [if_pos HCD.out]; unfold aN; rw [if_pos lu.out, ← jW.out.1]; dsimp only; rw [hr2]; rfl
       go_wp2_with fail
       refine ⟨rfl, ?_⟩
       rw [HG.out, hend]
       exact ⟨rfl, (qI.out.trans iK.out).trans hk5⟩
      | ok es2 l2 =>
       rintro e w5 ⟨y, i4, ycs, rfl, rfl, rfl, hy, xG, hk5⟩
       have HY := qh hy
       obtain ⟨hn3, hs3, hl3, XI, hx3, hr3, hi3⟩ := hy
       rename_i A3 c3 A4 c4 aan
       clear hx3 hr3 hi3
       rw [show (ai y A3 c3 A4 c4).toArray = #[.int .i64 y.k, .int .i64 y.op, .string y.nm, .int .i64 y.v.k, .int .i64 y.v.n, .string y.v.s, .slice A3 y.v.l.length c3, .slice A4 y.ar.length c4] from rfl]
       have ng := iK.out.trans hk5
       have hgW : g < w1.heap.size := by have := Ih.out.b.lt; omega
       have Jn := qh (nN HO.out ng hgW)
       have rq := qh (qI.out.trans ng)
       have D5 := qh ng
       have D6 := qh xG
       have hb5 : w1.heap.size ≤ w5.heap.size := Nat.le_trans GH.out ng.size
       obtain ⟨i0, hi0, hz0, hz1, hz2⟩ := info_parts BM
       have hal : acc.length ≤ 4001 := by have := qJ.out.1; omega
       go_wp2_with (at_builtin; refine wpList_append_lies _ rfl _ _ 25 rfl w1.heap.size 27 i0 (.agg #[.int .i64 0, .int .i64 0, .string ⟨#[]⟩, .int .i64 0, .int .i64 0, .string ⟨#[]⟩, .slice none 0 0, .slice none 0 0]) 8 112 Tryz.underlying25 hi0 hz0 hz1 hz2 rfl (by decide) _ _ _ rfl (Jn.out.alloc _) ⟨w5.heap.size, 0, none⟩ 1 1 [.int .i64 y.k, .int .i64 y.op, .string y.nm, .int .i64 y.v.k, .int .i64 y.v.n, .string y.v.s, .slice A3 y.v.l.length c3, .slice A4 y.ar.length c4] rfl rfl ?d1 ?d2 (by decide) ?d3 ?d4 ?d5 _ rfl ?_)
       case d1 => exact World.news_of_block (af.new w5 27 _)
       case d2 => intro u hu; simp only [List.mem_cons, List.not_mem_nil, or_false] at hu; rcases hu with rfl | rfl | rfl | rfl | rfl | rfl | rfl | rfl <;> rfl
       case d3 => unfold maxLen; omega
       case d4 => omega
       case d5 => simp; omega
       intro g7 cap w7 ig kC kV ru
       go_wp2_with fail
       go_roundw
       case rel =>
        have hob : ∀ k, (Value.slice A acc.length c).ownBlock = some k → w1.heap.size ≤ k := fun k hk => (Jn.out.lt k hk).1
        have hs7 := kC.size
        have hgb : w7.heap[g]? = w5.heap[g]? := (kC.block g (by have := D6.out.b.lt; simp; omega) (fun e => by have := hob g e.symm; omega)).trans (Below.heap_alloc w5 _ g D6.out.b.lt)
        refine ⟨acc ++ [y], css ++ [ai y A3 c3 A4 c4], some ⟨g7, 0, none⟩, cap, i4, by simp, ?_, ?_, ?_, qh (D6.out.kp hgb), ?_, ?_, ?_, ?_⟩
        ·
         have h1 := HE.out.imp (q := fun b => (w.heap.size ≤ b ∧ some b ≠ (Value.slice A acc.length c).ownBlock) ∧ some b ≠ some g7) (fun k hk hl => ⟨hk, fun e => by
          injection e with e
          rcases kV with h | h
          ·
           exact hk.2 (by rw [h, e])
          ·
           have := ng.size
           try simp at h
           omega⟩)
         have h2 := (h1.keep (w' := w7) ⟨by have := ng.size; simp at hs7; omega, fun k hk hl => by
          have hz := ng.size
          rw [kC.block k (by simp; omega) hk.1.2, Below.heap_alloc w5 _ k (by omega)]
          exact ng.block k hl (fun e => by injection e with e; have := hk.1.1; omega)⟩).imp (q := fun b => w.heap.size ≤ b ∧ some b ≠ (Value.slice (some ⟨g7, 0, none⟩) (acc ++ [y]).length cap).ownBlock) (fun k hk _ => ⟨hk.1.1, hk.2⟩)
         have hwo : ∀ k, (Value.slice A acc.length c).ownBlock = some k → k < wr.heap.size := fun k hk => (HO.out.lt k hk).2
         have hz4 := iK.out.size
         have hz1 := GH.out
         have h3 := HY.out.imp (q := fun b => b < w5.heap.size ∧ (w.heap.size ≤ b ∧ some b ≠ (Value.slice (some ⟨g7, 0, none⟩) (acc ++ [y]).length cap).ownBlock) ∧ some b ≠ (Value.slice A acc.length c).ownBlock) (fun k hk hl => ⟨hl, ⟨by omega, fun e => by
          have e' : k = g7 := by injection e
          rcases kV with h | h
          ·
           have := hwo g7 h
           omega
          ·
           try simp at h
           omega⟩, fun e => by
          have := hwo k e.symm
          omega⟩)
         have h4 := ((h3.keep (w' := w7) ⟨by simp at hs7; omega, fun k hk hl => by
          rw [kC.block k (by simp; omega) hk.2.2, Below.heap_alloc w5 _ k hl]⟩).up (B' := w7.heap.size) (by simp at hs7; omega)).imp (q := fun b => w.heap.size ≤ b ∧ some b ≠ (Value.slice (some ⟨g7, 0, none⟩) (acc ++ [y]).length cap).ownBlock) (fun k hk _ => hk.2.1)
         exact qh (h2.snoc h4)
        ·
         have e1 : (acc ++ [y]).length = acc.length + 1 := by simp
         have e2 : (css ++ [ai y A3 c3 A4 c4]).flatten = css.flatten ++ ai y A3 c3 A4 c4 := by simp
         rw [e1, e2]
         exact qh ig
        ·
         exact qh (by simp at hs7; omega)
        ·
         exact qh ((rq.out.alloc _).grown kC (fun k hk => by
          have h1 := hob k hk
          omega))
        ·
         have h1 : R = Pz s.data.toList.length (.lS o) (acc ++ [y]) (wordsOf s.data.toList i4) := by rw [uO.out, bW]; dsimp only [dB]; rw [if_pos HCD.out]; unfold aN; rw [if_pos lu.out, ← jW.out.1]; dsimp only; rw [hr2]; rfl
         exact qh h1
        ·
         have h1 := rV hr2
         have h2 := jW.out.2
         have h3 := qJ.out
         exact qh ⟨by simp; omega, by omega⟩
        ·
         exact qh (by simp)
       case measure =>
        have h1 := qJ.out.1
        have h2 := jW.out.2
        simp
        omega
     ·
      have hhi : ¬ ((acc.length : Nat) : Int) < ((hi : Nat) : Int) := by omega
      have HNH := qh (show ¬ acc.length < (iU o).2 by rw [GM.out.2]; exact hh)
      clear hl hh
      have hend : R = .ok acc (wordsOf s.data.toList i2) := by rw [uO.out, bW]; dsimp only [dB]; rw [if_neg (fun h => by rcases h with h | h; exact Ic.out h; exact HNH.out h.2)]
      have eH := qh hend
      clear hend
      go_wp2_with (go_at_call 84; (with_reducible refine HI2.out.mono ?_); rintro e w3 ⟨rfl, rfl⟩)
      go_ret
      rw [HG.out, eH.out]
      exact ⟨i2, css, A, c, rfl, by rfl, HE.out.imp (fun k hk _ => hk.1), own_base HO.out (by omega), by have := qJ.out.1; omega, PE.out, qI.out⟩
end Go.Proofs.YtobanldeicclmaaGreatDoor
