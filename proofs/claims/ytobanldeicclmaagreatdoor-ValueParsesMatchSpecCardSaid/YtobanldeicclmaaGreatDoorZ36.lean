/- Lemmas for the claim: walks and plain laws. -/
import Derived.Test.YtobanldeicclmaaGreatDoorZ35
set_option maxHeartbeats 8000000
set_option maxRecDepth 100000
namespace Go.Proofs.YtobanldeicclmaaGreatDoor
open Go.RowKit Vtx
attribute [local go_sem ↓] Go.wp_at_zero Go.wp_at_succ
theorem Ey (g : Nat) (s : ByteArray) (i : Nat) (w : World) (hp : aP w g s i) (hm : TM w g) (t : Tok) (r : List Tok) (hL : wordsOf s.data.toList i = t :: r) (ht : t.touch = false) (vY : t.tx = [40]) (hP : ∀ L', L'.length ≤ r.length → fK 31 .or s L') :
  Calls Tryz.prog 159 #[.pointer (some ⟨g, 0, none⟩)] w fun e w' => ui w g s (Pz s.data.toList.length .az [] (t :: r)) e w' := by
 have jD := qh hp
 have HM := qh hm
 have hlt := hp.b.lt
 have hs4 := hp.s
 have hwt := dJ hL
 obtain ⟨ea, et, eh⟩ := jX hwt.1
 obtain ⟨c0, tl, v, hu0, hc0, htx, h32, hv, hu1, hem, xx, tY, qN, hcb, hnb, hstr, jm⟩ := kN hwt.1
 have wV := dW hwt.1
 rw [ak] at wV
 have Hu := qh (show r = wordsOf s.data.toList (aO s i + (aH s i).length) by rw [ea, et]; exact hwt.2)
 have Ie := qh (show t.at_ = aO s i from ea.symm)
 have lh := qh hwt.1
 have Zp := qh hL
 have HV := qh hv
 have vK := qh (show tb (aH s i) = v by rw [et]; exact hv)
 have jf := qh eh
 have HW0 := qh (fun W (hp : aP W g s i) => iI g s i W hp)
 have hc : dF t.tx = false := by rw [vY]; decide
 have uk : c0 = 40 := by rw [htx] at vY; injection vY
 have FV := qh (Ko (n := s.data.toList.length) (r := r) ht vY)
 rw [ht] at jf
 obtain ⟨R, hR⟩ := ae (Pz s.data.toList.length .az [] (t :: r))
 rw [hR] at FV ⊢
 rw [hcb] at hc
 simp only [Bool.or_eq_false_iff, decide_eq_false_iff_not] at hc
 obtain ⟨⟨⟨⟨⟨⟨h0, h64⟩, h35⟩, jZ⟩, fJ⟩, ht1⟩, hf1⟩ := hc
 rw [h0] at xx
 obtain ⟨Vx, p64⟩ := fA (z := 64) (n := 64) hu1 h64 rfl rfl
 obtain ⟨q35, p35⟩ := fA (z := 35) (n := 35) hu1 h35 rfl rfl
 obtain ⟨X5, p39⟩ := fA (z := 39) (n := 39) hu1 jZ rfl rfl
 obtain ⟨Nk, Nl⟩ := fA (z := 123) (n := 123) hu1 fJ rfl rfl
 have st : (v.toList == [116, 114, 117, 101]) = false := by have h := jm [116, 114, 117, 101] ht1; simpa [tb] using h
 have sf : (v.toList == [102, 97, 108, 115, 101]) = false := by have h := jm [102, 97, 108, 115, 101] hf1; simpa [tb] using h
 have q40 : ((v[0].toNat : Int) == 40) = true := by rw [hu1, uk]; rfl
 have p40 : (v[0].toNat == 40) = true := by rw [hu1, uk]; rfl
 obtain ⟨i1, hi1⟩ := ae (aO s i + (aH s i).length)
 have HI1 := qh hi1
 rw [hi1] at Hu
 have xk := qh hP
 clear hR hi1 hP
 clear hu1 hcb hnb hstr jm hwt ea et eh htx h32 hc0 wV hv hL hp hm
 go_enter Tryz.func159, Tryz.ntmps159
 go_upto_region 1 with (fail)
 obtain ⟨W, hW, hkW, BR, hszW, hWs, -⟩ := dY g w
 have iZ := qh (show aP W g s i by rw [hW]; exact jD.out.alloc _)
 have oZ := qh (HM.out.kp hkW)
 have fV := qh BR
 rw [← hW]
 clear hW BR
 have d2 : W.cell? ⟨g, 2, none⟩ = some (.string v) := by have h := iZ.out.b.cell 2; rw [show tb (aH s i) = v from vK.out] at h; exact h
 have d3 : W.cell? ⟨g, 3, none⟩ = some (.bool false) := by have h := iZ.out.b.cell 3; rw [jf.out] at h; exact h
 have x9 := qh (next_any g s i W iZ.out)
 rw [HI1.out] at x9
 go_wp2_with (first | (go_at_call 80; (with_reducible refine (xx.out _).mono ?_); rintro e w1 ⟨rfl, rfl⟩) | (go_at_call 30; (with_reducible refine x9.out.mono ?_); rintro e w2 ⟨rfl, hp2, hk2⟩))
 have HP2 := qh hp2
 have mG := qh (hkW.trans hk2)
 have iC := qh (fV.out.kp hk2 (by omega))
 have hsz2 : W.heap.size ≤ w2.heap.size := hk2.size
 have HC := xk.out r (Nat.le_refl _) g i1 w2 HP2.out (HM.out.kp mG.out) Hu.out.symm
 obtain ⟨r2, hr2⟩ := ae (Pz s.data.toList.length .or [] r)
 rw [hr2] at HC FV
 refine HC.mono ?_
 clear HC hr2 hp2 hk2
 cases r2 with
 | err k =>
  rintro e w3 ⟨rfl, hk3⟩
  have hend : R = .err k := FV.out
  go_wp2_with fail
  refine ⟨rfl, ?_⟩
  rw [hend]
  exact ⟨rfl, mG.out.trans hk3⟩
 | ok es l1 =>
  rintro e w3 ⟨y, i2, cs3, rfl, rfl, rfl, hx3, hp3, hk3⟩
  have HX3 := qh hx3
  obtain ⟨hn3, hs3, hl3, XI, aeN, aeO, aeP⟩ := hx3
  rename_i A1 c1 A2 c2 aiH
  clear aeN aeO aeP hn3 hs3 hl3 XI
  have abD : (ai y A1 c1 A2 c2).toArray = #[.int .i64 y.k, .int .i64 y.op, .string y.nm, .int .i64 y.v.k, .int .i64 y.v.n, .string y.v.s, .slice A1 y.v.l.length c1, .slice A2 y.ar.length c2] := rfl
  rw [abD]
  clear abD
  have hsz3 : w2.heap.size ≤ w3.heap.size := hk3.size
  have FV := qh (show R = aN s.data.toList.length [41] (wordsOf s.data.toList i2) fun l2 => .ok [y] l2 from FV.out)
  have Ik := qh hp3
  have FP := qh (mG.out.trans hk3)
  have qO := qh (iC.out.kp hk3 (by omega))
  clear hp3 hk3
  go_upto_region 9 with (fail)
  obtain ⟨W3, hW3⟩ := au (w3.alloc (.cells #[.int .i64 y.k, .int .i64 y.op, .string y.nm, .int .i64 y.v.k, .int .i64 y.v.n, .string y.v.s, .slice A1 y.v.l.length c1, .slice A2 y.ar.length c2] 27 (0, 0)))
  have Dp := qh (show aP W3 g s i2 by rw [hW3]; exact Ik.out.alloc _)
  have qg := qh (show Kp g w W3 by rw [hW3]; exact FP.out.alloc _)
  have Dq := qh (show ZB W3 w.heap.size by rw [hW3]; exact qO.out.alloc _)
  have abE := qh (show af W3 w3.heap.size 27 #[.int .i64 y.k, .int .i64 y.op, .string y.nm, .int .i64 y.v.k, .int .i64 y.v.n, .string y.v.s, .slice A1 y.v.l.length c1, .slice A2 y.ar.length c2] by rw [hW3]; exact af.new w3 _ _)
  have Zq := qh (show dK W3 (fun b => W.heap.size ≤ b) W3.heap.size y (ai y A1 c1 A2 c2) by
   rw [hW3]
   exact ((HX3.out.imp (q := fun b => W.heap.size ≤ b) (fun k hk _ => by omega)).keep (dG.of ((Below.refl _ _).alloc (Nat.le_refl _) _))).up (by simp))
  have aiI : g < w3.heap.size := Ik.out.b.lt
  rw [← hW3]
  clear hW3
  go_wp2_with fail
  have tJ := take_any g s i2 W3 Dp.out [41] (by decide)
  obtain ⟨i6, Hm⟩ := ae (aO s i2 + (aH s i2).length)
  have htl := fun h => kL (s := s) (i := i2) (word := [41]) h
  rw [show tb [41] = ⟨#[41]⟩ from rfl, Hm] at tJ
  rw [Hm] at htl
  refine tJ.mono ?_
  intro e w8 htk
  obtain ⟨b5, hb5⟩ := ae (kU (wordsOf s.data.toList i2) [41])
  rw [hb5] at htk
  cases b5
  ·
   rw [if_neg (by decide)] at htk
   obtain ⟨rfl, rfl⟩ := htk
   have hend : R = .err (aO s i2) := by rw [FV.out]; unfold aN; rw [if_neg (by rw [hb5]; decide), lT]
   have eH := qh hend
   clear hend tJ htl Hm
   go_wp2_with fail
   refine ⟨rfl, ?_⟩
   rw [eH.out]
   exact ⟨rfl, qg.out⟩
  ·
   rw [if_pos rfl] at htk
   obtain ⟨rfl, UK, hk8⟩ := htk
   have hend : R = .ok [y] (wordsOf s.data.toList i6) := by rw [FV.out]; unfold aN; rw [if_pos hb5, ← (htl hb5).1]
   have eH := qh hend
   have Xd := qh (Zq.out.N7 hk8 (fun k hk => by omega))
   have YV := qh UK
   have Ip := qh (qg.out.trans hk8)
   have B8 := abE.out.kp hk8 (by omega)
   have uo := Dq.out.kp hk8 (by omega)
   clear hend tJ htl Hm hb5 UK hk8
   obtain ⟨Qs, Qu, Qv, Qw, Qx, Qy, Qz, QA⟩ := af.c8 B8
   obtain ⟨aQ, eX, aS, eY, aT, fD, aU, fE, aY, jR, aZ, jS, bu, jT, bz, jU⟩ := af.z8 uo
   go_wp2_with fail
   refine bodyPost_ret (v := .agg #[.int .i64 y.k, .int .i64 y.op, .string y.nm, .int .i64 y.v.k, .int .i64 y.v.n, .string y.v.s, .slice A1 y.v.l.length c1, .slice A2 y.ar.length c2]) (by simp [results, Tryz.results159, go_sem, aQ, aS, aT, aU, aY, aZ, bu, bz]) rfl ?_
   rw [eH.out]
   exact rC Xd.out hWs hlt YV.out Ip.out
theorem Kr (g : Nat) (s : ByteArray) (i : Nat) (w : World) (hp : aP w g s i) (hm : TM w g) (t : Tok) (r : List Tok) (hL : wordsOf s.data.toList i = t :: r) (ht : t.touch = false) (hc : dF t.tx = false) (vY : t.tx ≠ [40]) (hn : nameB t.tx = false) :
  Calls Tryz.prog 159 #[.pointer (some ⟨g, 0, none⟩)] w fun e w' => ui w g s (Pz s.data.toList.length .az [] (t :: r)) e w' := by
 have jD := qh hp
 have HM := qh hm
 have hlt := hp.b.lt
 have hs4 := hp.s
 have hwt := dJ hL
 obtain ⟨ea, et, eh⟩ := jX hwt.1
 obtain ⟨c0, tl, v, hu0, hc0, htx, h32, hv, hu1, hem, xx, tY, qN, hcb, hnb, hstr, jm⟩ := kN hwt.1
 have wV := dW hwt.1
 rw [ak] at wV
 have Hu := qh (show r = wordsOf s.data.toList (aO s i + (aH s i).length) by rw [ea, et]; exact hwt.2)
 have Ie := qh (show t.at_ = aO s i from ea.symm)
 have lh := qh hwt.1
 have Zp := qh hL
 have HV := qh hv
 have vK := qh (show tb (aH s i) = v by rw [et]; exact hv)
 have jf := qh eh
 have HW0 := qh (fun W (hp : aP W g s i) => iI g s i W hp)
 have uk : c0 ≠ 40 := fun e => vY (vO hwt.1 (w := tl) (by rw [htx, e]))
 rw [U1 ht hc vY hn, Ie.out]
 rw [ht] at jf
 rw [hcb] at hc
 simp only [Bool.or_eq_false_iff, decide_eq_false_iff_not] at hc
 obtain ⟨⟨⟨⟨⟨⟨h0, h64⟩, h35⟩, jZ⟩, fJ⟩, ht1⟩, hf1⟩ := hc
 rw [h0] at xx
 obtain ⟨Vx, p64⟩ := fA (z := 64) (n := 64) hu1 h64 rfl rfl
 obtain ⟨q35, p35⟩ := fA (z := 35) (n := 35) hu1 h35 rfl rfl
 obtain ⟨X5, p39⟩ := fA (z := 39) (n := 39) hu1 jZ rfl rfl
 obtain ⟨Nk, Nl⟩ := fA (z := 123) (n := 123) hu1 fJ rfl rfl
 have st : (v.toList == [116, 114, 117, 101]) = false := by have h := jm [116, 114, 117, 101] ht1; simpa [tb] using h
 have sf : (v.toList == [102, 97, 108, 115, 101]) = false := by have h := jm [102, 97, 108, 115, 101] hf1; simpa [tb] using h
 obtain ⟨q40, p40⟩ := fA (z := 40) (n := 40) hu1 uk rfl rfl
 rw [hnb] at hn
 by_cases hl : dE c0 = true
 ·
  rw [hl] at hn tY
  have hr : aB.contains t.tx = true := by simpa using hn
  rw [hr] at qN
  clear hl hn hr
  clear hu1 hcb hnb hstr jm hwt ea et eh htx h32 hc0 wV hv hL hp hm
  go_enter Tryz.func159, Tryz.ntmps159
  go_upto_region 1 with (fail)
  obtain ⟨W, hW, hkW, BR, hszW, hWs, -⟩ := dY g w
  have iZ := qh (show aP W g s i by rw [hW]; exact jD.out.alloc _)
  have oZ := qh (HM.out.kp hkW)
  have fV := qh BR
  rw [← hW]
  clear hW BR
  have d2 : W.cell? ⟨g, 2, none⟩ = some (.string v) := by have h := iZ.out.b.cell 2; rw [show tb (aH s i) = v from vK.out] at h; exact h
  have d3 : W.cell? ⟨g, 3, none⟩ = some (.bool false) := by have h := iZ.out.b.cell 3; rw [jf.out] at h; exact h
  go_wp2_with (first | (go_at_call 80; (with_reducible refine (xx.out _).mono ?_); rintro e w1 ⟨rfl, rfl⟩) | (go_at_call 78; (with_reducible refine (tY.out _).mono ?_); rintro e w1 ⟨rfl, rfl⟩) | (go_at_call 100; (with_reducible refine (qN.out _).mono ?_); rintro e w1 ⟨rfl, rfl⟩) | (go_at_call 32; (with_reducible refine (HW0.out _ iZ.out).mono ?_); rintro e w1 ⟨rfl, rfl⟩))
  exact ⟨rfl, rfl, hkW⟩
 ·
  rw [Bool.eq_false_iff.2 hl] at tY
  clear hl hn
  clear hu1 hcb hnb hstr jm hwt ea et eh htx h32 hc0 wV hv hL hp hm
  go_enter Tryz.func159, Tryz.ntmps159
  go_upto_region 1 with (fail)
  obtain ⟨W, hW, hkW, BR, hszW, hWs, -⟩ := dY g w
  have iZ := qh (show aP W g s i by rw [hW]; exact jD.out.alloc _)
  have oZ := qh (HM.out.kp hkW)
  have fV := qh BR
  rw [← hW]
  clear hW BR
  have d2 : W.cell? ⟨g, 2, none⟩ = some (.string v) := by have h := iZ.out.b.cell 2; rw [show tb (aH s i) = v from vK.out] at h; exact h
  have d3 : W.cell? ⟨g, 3, none⟩ = some (.bool false) := by have h := iZ.out.b.cell 3; rw [jf.out] at h; exact h
  go_wp2_with (first | (go_at_call 80; (with_reducible refine (xx.out _).mono ?_); rintro e w1 ⟨rfl, rfl⟩) | (go_at_call 78; (with_reducible refine (tY.out _).mono ?_); rintro e w1 ⟨rfl, rfl⟩) | (go_at_call 32; (with_reducible refine (HW0.out _ iZ.out).mono ?_); rintro e w1 ⟨rfl, rfl⟩))
  exact ⟨rfl, rfl, hkW⟩
theorem Ez (g : Nat) (s : ByteArray) (i : Nat) (w : World) (hp : aP w g s i) (hm : TM w g) (t : Tok) (r : List Tok) (hL : wordsOf s.data.toList i = t :: r) (ht : t.touch = false) (hc : dF t.tx = false) (vY : t.tx ≠ [40]) (hn : nameB t.tx = true) (hd : jH t r = false) :
  Calls Tryz.prog 159 #[.pointer (some ⟨g, 0, none⟩)] w fun e w' => ui w g s (Pz s.data.toList.length .az [] (t :: r)) e w' := by
 have jD := qh hp
 have HM := qh hm
 have hlt := hp.b.lt
 have hs4 := hp.s
 have hwt := dJ hL
 obtain ⟨ea, et, eh⟩ := jX hwt.1
 obtain ⟨c0, tl, v, hu0, hc0, htx, h32, hv, hu1, hem, xx, tY, qN, hcb, hnb, hstr, jm⟩ := kN hwt.1
 have wV := dW hwt.1
 rw [ak] at wV
 have Hu := qh (show r = wordsOf s.data.toList (aO s i + (aH s i).length) by rw [ea, et]; exact hwt.2)
 have Ie := qh (show t.at_ = aO s i from ea.symm)
 have lh := qh hwt.1
 have Zp := qh hL
 have HV := qh hv
 have vK := qh (show tb (aH s i) = v by rw [et]; exact hv)
 have jf := qh eh
 have HW0 := qh (fun W (hp : aP W g s i) => iI g s i W hp)
 have uk : c0 ≠ 40 := fun e => vY (vO hwt.1 (w := tl) (by rw [htx, e]))
 rw [ht] at jf
 have FV := qh (Nj (n := s.data.toList.length) (r := r) ht hc vY hn hd)
 obtain ⟨R, hR⟩ := ae (Pz s.data.toList.length .az [] (t :: r))
 rw [hR] at FV ⊢
 rw [hcb] at hc
 simp only [Bool.or_eq_false_iff, decide_eq_false_iff_not] at hc
 obtain ⟨⟨⟨⟨⟨⟨h0, h64⟩, h35⟩, jZ⟩, fJ⟩, ht1⟩, hf1⟩ := hc
 rw [h0] at xx
 obtain ⟨Vx, p64⟩ := fA (z := 64) (n := 64) hu1 h64 rfl rfl
 obtain ⟨q35, p35⟩ := fA (z := 35) (n := 35) hu1 h35 rfl rfl
 obtain ⟨X5, p39⟩ := fA (z := 39) (n := 39) hu1 jZ rfl rfl
 obtain ⟨Nk, Nl⟩ := fA (z := 123) (n := 123) hu1 fJ rfl rfl
 have st : (v.toList == [116, 114, 117, 101]) = false := by have h := jm [116, 114, 117, 101] ht1; simpa [tb] using h
 have sf : (v.toList == [102, 97, 108, 115, 101]) = false := by have h := jm [102, 97, 108, 115, 101] hf1; simpa [tb] using h
 obtain ⟨q40, p40⟩ := fA (z := 40) (n := 40) hu1 uk rfl rfl
 rw [hnb, Bool.and_eq_true] at hn
 rw [hn.1] at tY
 have hr : aB.contains t.tx = false := by simpa using hn.2
 rw [hr] at qN
 obtain ⟨P0, hP0⟩ := ae (t.at_)
 obtain ⟨J, hJ⟩ := ae (P0 + v.size)
 have Np : J = t.at_ + t.tx.length := by rw [← hJ, ← hP0, ← hv, dm]
 have hcall := wX (s := s.data.toList) (t := t) Np
 have Xm : r = wordsOf s.data.toList J := by rw [Np]; exact hwt.2
 rw [← Xm, hd, ak] at hcall
 have hJs : J ≤ s.size := by rw [Np]; omega
 have ZP := qh (show aO s i = P0 by rw [ea, hP0])
 have hJi : ((P0 : Nat) : Int) + (v.size : Nat) = (J : Nat) := by omega
 have hJw : IntKind.i64.wrap (((P0 : Nat) : Int) + (v.size : Nat)) = (J : Nat) := by rw [hJi]; exact IntWalk.i64_in _ (by omega)
 obtain ⟨i1, hi1⟩ := ae (aO s i + (aH s i).length)
 have HI1 := qh hi1
 rw [hi1] at Hu
 have yY : t.tx.length ≤ 4000 := by omega
 have J4 := qh yY
 by_cases hJ1 : J < s.size
 ·
  have hne : s[J].toNat ≠ 40 := fun e => by
   rw [decide_eq_true hJ1, Bool.true_and, jo hJ1] at hcall
   have h2 := of_decide_eq_false hcall.symm
   exact h2 (UInt8.toNat_inj.1 e)
  have b40 : (((s[J]'hJ1).toNat : Int) == 40) = false := by simp; omega
  have abH : ((s[J]'hJ1).toNat == 40) = false := by simp; omega
  have Zr : ((J : Nat) : Int) < ((s.size : Nat) : Int) := by omega
  clear hne
  clear hr hn hu1 hcall Xm hP0 hi1 hR Np yY hcb hnb hstr jm hwt ea et eh htx h32 hc0 wV hv hL hp hm
  go_enter Tryz.func159, Tryz.ntmps159
  go_upto_region 1 with (fail)
  obtain ⟨W, hW, hkW, BR, hszW, hWs, -⟩ := dY g w
  have iZ := qh (show aP W g s i by rw [hW]; exact jD.out.alloc _)
  have oZ := qh (HM.out.kp hkW)
  have fV := qh BR
  rw [← hW]
  clear hW BR
  have d2 : W.cell? ⟨g, 2, none⟩ = some (.string v) := by have h := iZ.out.b.cell 2; rw [show tb (aH s i) = v from vK.out] at h; exact h
  have d3 : W.cell? ⟨g, 3, none⟩ = some (.bool false) := by have h := iZ.out.b.cell 3; rw [jf.out] at h; exact h
  have d1 : W.cell? ⟨g, 1, none⟩ = some (.int .i64 (P0 : Nat)) := by have h := iZ.out.b.cell 1; rw [ZP.out] at h; exact h
  go_upto_region 13 with (first | (go_at_call 80; (with_reducible refine (xx.out _).mono ?_); rintro e w1 ⟨rfl, rfl⟩) | (go_at_call 78; (with_reducible refine (tY.out _).mono ?_); rintro e w1 ⟨rfl, rfl⟩) | (go_at_call 100; (with_reducible refine (qN.out _).mono ?_); rintro e w1 ⟨rfl, rfl⟩))
  go_quiet (fail)
  obtain ⟨W1, hW1⟩ := au (W.drewN nq)
  have hb1 : Below W.heap.size W W1 := by rw [hW1]; exact (Below.refl _ _).drewN nq
  have xu := qh (iZ.out.below hb1)
  have pU := qh (hkW.trans (Kp.of hb1))
  have eG := qh (fV.out.below hb1 fV.out.lt)
  have hsz1 : W.heap.size ≤ W1.heap.size := hb1.size
  rw [← hW1]
  clear hW1 hb1 d1 d2 d3
  have d0 : W1.cell? ⟨g, 0, none⟩ = some (.string s) := xu.out.b.cell 0
  have x9 := qh (next_any g s i W1 xu.out)
  rw [HI1.out] at x9
  go_wp2_with (go_at_call 30; (with_reducible refine x9.out.mono ?_); rintro e w5 ⟨rfl, xG, hk5⟩; have D6 := qh xG; have rq := qh (pU.out.trans hk5); have B5 := eG.out.kp hk5 (by omega); have aQ : w5.cell? ⟨w.heap.size, 0, none⟩ = some (.int .i64 0) := B5.cell 0; have eX : w5.frozen? ⟨w.heap.size, 0, none⟩ = false := B5.frozen 0; have aS : w5.cell? ⟨w.heap.size, 1, none⟩ = some (.int .i64 0) := B5.cell 1; have eY : w5.frozen? ⟨w.heap.size, 1, none⟩ = false := B5.frozen 1; have aT : w5.cell? ⟨w.heap.size, 2, none⟩ = some (.string ⟨#[]⟩) := B5.cell 2; have fD : w5.frozen? ⟨w.heap.size, 2, none⟩ = false := B5.frozen 2; have aU : w5.cell? ⟨w.heap.size, 3, none⟩ = some (.int .i64 0) := B5.cell 3; have fE : w5.frozen? ⟨w.heap.size, 3, none⟩ = false := B5.frozen 3; have aY : w5.cell? ⟨w.heap.size, 4, none⟩ = some (.int .i64 0) := B5.cell 4; have jR : w5.frozen? ⟨w.heap.size, 4, none⟩ = false := B5.frozen 4; have aZ : w5.cell? ⟨w.heap.size, 5, none⟩ = some (.string ⟨#[]⟩) := B5.cell 5; have jS : w5.frozen? ⟨w.heap.size, 5, none⟩ = false := B5.frozen 5; have bu : w5.cell? ⟨w.heap.size, 6, none⟩ = some (.slice none 0 0) := B5.cell 6; have jT : w5.frozen? ⟨w.heap.size, 6, none⟩ = false := B5.frozen 6; have bz : w5.cell? ⟨w.heap.size, 7, none⟩ = some (.slice none 0 0) := B5.cell 7; have jU : w5.frozen? ⟨w.heap.size, 7, none⟩ = false := B5.frozen 7)
  refine bodyPost_ret (v := .agg #[.int .i64 2, .int .i64 0, .string v, .int .i64 0, .int .i64 0, .string ⟨#[]⟩, .slice none 0 0, .slice none 0 0]) (by simp [results, Tryz.results159, go_sem, aQ, aS, aT, aU, aY, aZ, bu, bz]) rfl ?_
  have hv := HV.out
  subst hv
  rw [FV.out, Hu.out]
  exact rC (L := W.heap.size) (x := bP 2 0 t.tx []) (A := none) (c := 0) (A' := none) (c' := 0) (pg (B := W.heap.size) (css := []) 2 0 t.tx (by have := J4.out; unfold maxLen; omega) ⟨rfl, fun j h => absurd h (by simp)⟩ (fun k hk => hk) ⟨rfl, .inl ⟨rfl, rfl⟩⟩ (Nat.zero_le _)) hWs hlt D6.out rq.out
 ·
  have Zr : ¬ ((J : Nat) : Int) < ((s.size : Nat) : Int) := by omega
  clear hr hn hu1 hcall Xm hP0 hi1 hR Np yY hcb hnb hstr jm hwt ea et eh htx h32 hc0 wV hv hL hp hm
  go_enter Tryz.func159, Tryz.ntmps159
  go_upto_region 1 with (fail)
  obtain ⟨W, hW, hkW, BR, hszW, hWs, -⟩ := dY g w
  have iZ := qh (show aP W g s i by rw [hW]; exact jD.out.alloc _)
  have oZ := qh (HM.out.kp hkW)
  have fV := qh BR
  rw [← hW]
  clear hW BR
  have d2 : W.cell? ⟨g, 2, none⟩ = some (.string v) := by have h := iZ.out.b.cell 2; rw [show tb (aH s i) = v from vK.out] at h; exact h
  have d3 : W.cell? ⟨g, 3, none⟩ = some (.bool false) := by have h := iZ.out.b.cell 3; rw [jf.out] at h; exact h
  have d1 : W.cell? ⟨g, 1, none⟩ = some (.int .i64 (P0 : Nat)) := by have h := iZ.out.b.cell 1; rw [ZP.out] at h; exact h
  go_upto_region 13 with (first | (go_at_call 80; (with_reducible refine (xx.out _).mono ?_); rintro e w1 ⟨rfl, rfl⟩) | (go_at_call 78; (with_reducible refine (tY.out _).mono ?_); rintro e w1 ⟨rfl, rfl⟩) | (go_at_call 100; (with_reducible refine (qN.out _).mono ?_); rintro e w1 ⟨rfl, rfl⟩))
  go_quiet (fail)
  obtain ⟨W1, hW1⟩ := au (W.drewN nq)
  have hb1 : Below W.heap.size W W1 := by rw [hW1]; exact (Below.refl _ _).drewN nq
  have xu := qh (iZ.out.below hb1)
  have pU := qh (hkW.trans (Kp.of hb1))
  have eG := qh (fV.out.below hb1 fV.out.lt)
  have hsz1 : W.heap.size ≤ W1.heap.size := hb1.size
  rw [← hW1]
  clear hW1 hb1 d1 d2 d3
  have d0 : W1.cell? ⟨g, 0, none⟩ = some (.string s) := xu.out.b.cell 0
  have x9 := qh (next_any g s i W1 xu.out)
  rw [HI1.out] at x9
  go_wp2_with (go_at_call 30; (with_reducible refine x9.out.mono ?_); rintro e w5 ⟨rfl, xG, hk5⟩; have D6 := qh xG; have rq := qh (pU.out.trans hk5); have B5 := eG.out.kp hk5 (by omega); have aQ : w5.cell? ⟨w.heap.size, 0, none⟩ = some (.int .i64 0) := B5.cell 0; have eX : w5.frozen? ⟨w.heap.size, 0, none⟩ = false := B5.frozen 0; have aS : w5.cell? ⟨w.heap.size, 1, none⟩ = some (.int .i64 0) := B5.cell 1; have eY : w5.frozen? ⟨w.heap.size, 1, none⟩ = false := B5.frozen 1; have aT : w5.cell? ⟨w.heap.size, 2, none⟩ = some (.string ⟨#[]⟩) := B5.cell 2; have fD : w5.frozen? ⟨w.heap.size, 2, none⟩ = false := B5.frozen 2; have aU : w5.cell? ⟨w.heap.size, 3, none⟩ = some (.int .i64 0) := B5.cell 3; have fE : w5.frozen? ⟨w.heap.size, 3, none⟩ = false := B5.frozen 3; have aY : w5.cell? ⟨w.heap.size, 4, none⟩ = some (.int .i64 0) := B5.cell 4; have jR : w5.frozen? ⟨w.heap.size, 4, none⟩ = false := B5.frozen 4; have aZ : w5.cell? ⟨w.heap.size, 5, none⟩ = some (.string ⟨#[]⟩) := B5.cell 5; have jS : w5.frozen? ⟨w.heap.size, 5, none⟩ = false := B5.frozen 5; have bu : w5.cell? ⟨w.heap.size, 6, none⟩ = some (.slice none 0 0) := B5.cell 6; have jT : w5.frozen? ⟨w.heap.size, 6, none⟩ = false := B5.frozen 6; have bz : w5.cell? ⟨w.heap.size, 7, none⟩ = some (.slice none 0 0) := B5.cell 7; have jU : w5.frozen? ⟨w.heap.size, 7, none⟩ = false := B5.frozen 7)
  refine bodyPost_ret (v := .agg #[.int .i64 2, .int .i64 0, .string v, .int .i64 0, .int .i64 0, .string ⟨#[]⟩, .slice none 0 0, .slice none 0 0]) (by simp [results, Tryz.results159, go_sem, aQ, aS, aT, aU, aY, aZ, bu, bz]) rfl ?_
  have hv := HV.out
  subst hv
  rw [FV.out, Hu.out]
  exact rC (L := W.heap.size) (x := bP 2 0 t.tx []) (A := none) (c := 0) (A' := none) (c' := 0) (pg (B := W.heap.size) (css := []) 2 0 t.tx (by have := J4.out; unfold maxLen; omega) ⟨rfl, fun j h => absurd h (by simp)⟩ (fun k hk => hk) ⟨rfl, .inl ⟨rfl, rfl⟩⟩ (Nat.zero_le _)) hWs hlt D6.out rq.out
theorem Hy (g : Nat) (s : ByteArray) (i : Nat) (w : World) (hp : aP w g s i) (hm : TM w g) (t : Tok) (r : List Tok) (hL : wordsOf s.data.toList i = t :: r) (ht : t.touch = false) (hc : dF t.tx = false) (vY : t.tx ≠ [40]) (hn : nameB t.tx = true) (hd : jH t r = true) (ho : cZ t.tx = 0) (hq : gm t.tx = 0) (hx : t.tx ≠ pI) :
  Calls Tryz.prog 159 #[.pointer (some ⟨g, 0, none⟩)] w fun e w' => ui w g s (Pz s.data.toList.length .az [] (t :: r)) e w' := by
 have jD := qh hp
 have HM := qh hm
 have hlt := hp.b.lt
 have hs4 := hp.s
 have hwt := dJ hL
 obtain ⟨ea, et, eh⟩ := jX hwt.1
 obtain ⟨c0, tl, v, hu0, hc0, htx, h32, hv, hu1, hem, xx, tY, qN, hcb, hnb, hstr, jm⟩ := kN hwt.1
 have wV := dW hwt.1
 rw [ak] at wV
 have Hu := qh (show r = wordsOf s.data.toList (aO s i + (aH s i).length) by rw [ea, et]; exact hwt.2)
 have Ie := qh (show t.at_ = aO s i from ea.symm)
 have lh := qh hwt.1
 have Zp := qh hL
 have HV := qh hv
 have vK := qh (show tb (aH s i) = v by rw [et]; exact hv)
 have jf := qh eh
 have HW0 := qh (fun W (hp : aP W g s i) => iI g s i W hp)
 have uk : c0 ≠ 40 := fun e => vY (vO hwt.1 (w := tl) (by rw [htx, e]))
 rw [ht] at jf
 have FV := qh (QL (n := s.data.toList.length) (r := r) ht hc vY hn hd ho hq hx)
 obtain ⟨R, hR⟩ := ae (Pz s.data.toList.length .az [] (t :: r))
 rw [hR] at FV ⊢
 rw [hcb] at hc
 simp only [Bool.or_eq_false_iff, decide_eq_false_iff_not] at hc
 obtain ⟨⟨⟨⟨⟨⟨h0, h64⟩, h35⟩, jZ⟩, fJ⟩, ht1⟩, hf1⟩ := hc
 rw [h0] at xx
 obtain ⟨Vx, p64⟩ := fA (z := 64) (n := 64) hu1 h64 rfl rfl
 obtain ⟨q35, p35⟩ := fA (z := 35) (n := 35) hu1 h35 rfl rfl
 obtain ⟨X5, p39⟩ := fA (z := 39) (n := 39) hu1 jZ rfl rfl
 obtain ⟨Nk, Nl⟩ := fA (z := 123) (n := 123) hu1 fJ rfl rfl
 have st : (v.toList == [116, 114, 117, 101]) = false := by have h := jm [116, 114, 117, 101] ht1; simpa [tb] using h
 have sf : (v.toList == [102, 97, 108, 115, 101]) = false := by have h := jm [102, 97, 108, 115, 101] hf1; simpa [tb] using h
 obtain ⟨q40, p40⟩ := fA (z := 40) (n := 40) hu1 uk rfl rfl
 rw [hnb, Bool.and_eq_true] at hn
 rw [hn.1] at tY
 have hr : aB.contains t.tx = false := by simpa using hn.2
 rw [hr] at qN
 obtain ⟨P0, hP0⟩ := ae (t.at_)
 obtain ⟨J, hJ⟩ := ae (P0 + v.size)
 have Np : J = t.at_ + t.tx.length := by rw [← hJ, ← hP0, ← hv, dm]
 have hcall := wX (s := s.data.toList) (t := t) Np
 have Xm : r = wordsOf s.data.toList J := by rw [Np]; exact hwt.2
 rw [← Xm, hd, ak] at hcall
 have hJs : J ≤ s.size := by rw [Np]; omega
 have ZP := qh (show aO s i = P0 by rw [ea, hP0])
 have hJi : ((P0 : Nat) : Int) + (v.size : Nat) = (J : Nat) := by omega
 have hJw : IntKind.i64.wrap (((P0 : Nat) : Int) + (v.size : Nat)) = (J : Nat) := by rw [hJi]; exact IntWalk.i64_in _ (by omega)
 obtain ⟨i1, hi1⟩ := ae (aO s i + (aH s i).length)
 have HI1 := qh hi1
 rw [hi1] at Hu
 have yY : t.tx.length ≤ 4000 := by omega
 have J4 := qh yY
 have hJ1 : J < s.size := by
  have h1 : decide (J < s.size) = true := by
   cases h : decide (J < s.size) with
   | true => rfl
   | false => rw [h] at hcall; cases hcall
  exact of_decide_eq_true h1
 have Zt : (s[J]'hJ1).toNat = 40 := by
  rw [decide_eq_true hJ1, Bool.true_and, jo hJ1] at hcall
  have h2 := of_decide_eq_true hcall.symm
  rw [h2]; rfl
 have b40 : (((s[J]'hJ1).toNat : Int) == 40) = true := by simp; omega
 have abH : ((s[J]'hJ1).toNat == 40) = true := by simp; omega
 have Zr : ((J : Nat) : Int) < ((s.size : Nat) : Int) := by omega
 clear Zt
 have HCN := qh (fun W => hv ▸ QF g W t.tx ho hq hx)
 clear hr hn hu1 hcall Xm hP0 hi1 hR Np yY hcb hnb hstr jm hwt ea et eh htx h32 hc0 wV hv hL hp hm
 go_enter Tryz.func159, Tryz.ntmps159
 go_upto_region 1 with (fail)
 obtain ⟨W, hW, hkW, BR, hszW, hWs, -⟩ := dY g w
 have iZ := qh (show aP W g s i by rw [hW]; exact jD.out.alloc _)
 have oZ := qh (HM.out.kp hkW)
 have fV := qh BR
 rw [← hW]
 clear hW BR
 have d2 : W.cell? ⟨g, 2, none⟩ = some (.string v) := by have h := iZ.out.b.cell 2; rw [show tb (aH s i) = v from vK.out] at h; exact h
 have d3 : W.cell? ⟨g, 3, none⟩ = some (.bool false) := by have h := iZ.out.b.cell 3; rw [jf.out] at h; exact h
 have d1 : W.cell? ⟨g, 1, none⟩ = some (.int .i64 (P0 : Nat)) := by have h := iZ.out.b.cell 1; rw [ZP.out] at h; exact h
 go_upto_region 13 with (first | (go_at_call 80; (with_reducible refine (xx.out _).mono ?_); rintro e w1 ⟨rfl, rfl⟩) | (go_at_call 78; (with_reducible refine (tY.out _).mono ?_); rintro e w1 ⟨rfl, rfl⟩) | (go_at_call 100; (with_reducible refine (qN.out _).mono ?_); rintro e w1 ⟨rfl, rfl⟩))
 go_quiet (fail)
 obtain ⟨W1, hW1⟩ := au (W.drewN nq)
 have hb1 : Below W.heap.size W W1 := by rw [hW1]; exact (Below.refl _ _).drewN nq
 have xu := qh (iZ.out.below hb1)
 have pU := qh (hkW.trans (Kp.of hb1))
 have eG := qh (fV.out.below hb1 fV.out.lt)
 have hsz1 : W.heap.size ≤ W1.heap.size := hb1.size
 rw [← hW1]
 clear hW1 hb1 d1 d2 d3
 have d0 : W1.cell? ⟨g, 0, none⟩ = some (.string s) := xu.out.b.cell 0
 go_wp2_with fail
 refine (HCN.out W1).mono ?_
 rintro e w2 ⟨rfl, hb2⟩
 go_upto_region 16 with (fail)
 obtain ⟨W3, hW3⟩ := au (w2.alloc (.cells #[.int .i64 0, .int .i64 0, .string ⟨#[]⟩, .int .i64 0, .int .i64 0, .string ⟨#[]⟩, .slice none 0 0, .slice none 0 0] 27 (0, 0)))
 have hb3 : Below W1.heap.size W1 W3 := by rw [hW3]; exact hb2.alloc hb2.size _
 have Dp := qh (xu.out.below hb3)
 have qg := qh (pU.out.trans (Kp.of hb3))
 have qO := qh (eG.out.below hb3 eG.out.lt)
 rw [← hW3]
 clear hW3 hb2 hb3
 have x9 := qh (next_any g s i W3 Dp.out)
 rw [HI1.out] at x9
 go_wp2_with (go_at_call 30; (with_reducible refine x9.out.mono ?_); rintro e w5 ⟨rfl, xG, hk5⟩; have D6 := qh xG; have rq := qh (qg.out.trans hk5); have B5 := qO.out.kp hk5 (by omega); have aQ : w5.cell? ⟨w.heap.size, 0, none⟩ = some (.int .i64 0) := B5.cell 0; have eX : w5.frozen? ⟨w.heap.size, 0, none⟩ = false := B5.frozen 0; have aS : w5.cell? ⟨w.heap.size, 1, none⟩ = some (.int .i64 0) := B5.cell 1; have eY : w5.frozen? ⟨w.heap.size, 1, none⟩ = false := B5.frozen 1; have aT : w5.cell? ⟨w.heap.size, 2, none⟩ = some (.string ⟨#[]⟩) := B5.cell 2; have fD : w5.frozen? ⟨w.heap.size, 2, none⟩ = false := B5.frozen 2; have aU : w5.cell? ⟨w.heap.size, 3, none⟩ = some (.int .i64 0) := B5.cell 3; have fE : w5.frozen? ⟨w.heap.size, 3, none⟩ = false := B5.frozen 3; have aY : w5.cell? ⟨w.heap.size, 4, none⟩ = some (.int .i64 0) := B5.cell 4; have jR : w5.frozen? ⟨w.heap.size, 4, none⟩ = false := B5.frozen 4; have aZ : w5.cell? ⟨w.heap.size, 5, none⟩ = some (.string ⟨#[]⟩) := B5.cell 5; have jS : w5.frozen? ⟨w.heap.size, 5, none⟩ = false := B5.frozen 5; have bu : w5.cell? ⟨w.heap.size, 6, none⟩ = some (.slice none 0 0) := B5.cell 6; have jT : w5.frozen? ⟨w.heap.size, 6, none⟩ = false := B5.frozen 6; have bz : w5.cell? ⟨w.heap.size, 7, none⟩ = some (.slice none 0 0) := B5.cell 7; have jU : w5.frozen? ⟨w.heap.size, 7, none⟩ = false := B5.frozen 7)
 refine bodyPost_ret (v := .agg #[.int .i64 2, .int .i64 0, .string v, .int .i64 0, .int .i64 0, .string ⟨#[]⟩, .slice none 0 0, .slice none 0 0]) (by simp [results, Tryz.results159, go_sem, aQ, aS, aT, aU, aY, aZ, bu, bz]) rfl ?_
 have hv := HV.out
 subst hv
 rw [FV.out, Hu.out]
 exact rC (L := W.heap.size) (x := bP 2 0 t.tx []) (A := none) (c := 0) (A' := none) (c' := 0) (pg (B := W.heap.size) (css := []) 2 0 t.tx (by have := J4.out; unfold maxLen; omega) ⟨rfl, fun j h => absurd h (by simp)⟩ (fun k hk => hk) ⟨rfl, .inl ⟨rfl, rfl⟩⟩ (Nat.zero_le _)) hWs hlt D6.out rq.out
theorem Hz (g : Nat) (s : ByteArray) (i : Nat) (w : World) (hp : aP w g s i) (hm : TM w g) (t : Tok) (r : List Tok) (hL : wordsOf s.data.toList i = t :: r) (ht : t.touch = false) (hc : dF t.tx = false) (vY : t.tx ≠ [40]) (hn : nameB t.tx = true) (hd : jH t r = true) (hy : ¬ (cZ t.tx = 0 ∧ gm t.tx = 0 ∧ t.tx ≠ pI)) (hP : ∀ L', L'.length < r.length → fK 31 .or s L') :
  Calls Tryz.prog 159 #[.pointer (some ⟨g, 0, none⟩)] w fun e w' => ui w g s (Pz s.data.toList.length .az [] (t :: r)) e w' := by
 have jD := qh hp
 have HM := qh hm
 have hlt := hp.b.lt
 have hs4 := hp.s
 have hwt := dJ hL
 obtain ⟨ea, et, eh⟩ := jX hwt.1
 obtain ⟨c0, tl, v, hu0, hc0, htx, h32, hv, hu1, hem, xx, tY, qN, hcb, hnb, hstr, jm⟩ := kN hwt.1
 have wV := dW hwt.1
 rw [ak] at wV
 have Hu := qh (show r = wordsOf s.data.toList (aO s i + (aH s i).length) by rw [ea, et]; exact hwt.2)
 have Ie := qh (show t.at_ = aO s i from ea.symm)
 have lh := qh hwt.1
 have Zp := qh hL
 have HV := qh hv
 have vK := qh (show tb (aH s i) = v by rw [et]; exact hv)
 have jf := qh eh
 have HW0 := qh (fun W (hp : aP W g s i) => iI g s i W hp)
 have uk : c0 ≠ 40 := fun e => vY (vO hwt.1 (w := tl) (by rw [htx, e]))
 rw [ht] at jf
 have FV := qh (QM (n := s.data.toList.length) (r := r) ht hc vY hn hd hy)
 obtain ⟨R, hR⟩ := ae (Pz s.data.toList.length .az [] (t :: r))
 rw [hR] at FV ⊢
 rw [hcb] at hc
 simp only [Bool.or_eq_false_iff, decide_eq_false_iff_not] at hc
 obtain ⟨⟨⟨⟨⟨⟨h0, h64⟩, h35⟩, jZ⟩, fJ⟩, ht1⟩, hf1⟩ := hc
 rw [h0] at xx
 obtain ⟨Vx, p64⟩ := fA (z := 64) (n := 64) hu1 h64 rfl rfl
 obtain ⟨q35, p35⟩ := fA (z := 35) (n := 35) hu1 h35 rfl rfl
 obtain ⟨X5, p39⟩ := fA (z := 39) (n := 39) hu1 jZ rfl rfl
 obtain ⟨Nk, Nl⟩ := fA (z := 123) (n := 123) hu1 fJ rfl rfl
 have st : (v.toList == [116, 114, 117, 101]) = false := by have h := jm [116, 114, 117, 101] ht1; simpa [tb] using h
 have sf : (v.toList == [102, 97, 108, 115, 101]) = false := by have h := jm [102, 97, 108, 115, 101] hf1; simpa [tb] using h
 obtain ⟨q40, p40⟩ := fA (z := 40) (n := 40) hu1 uk rfl rfl
 rw [hnb, Bool.and_eq_true] at hn
 rw [hn.1] at tY
 have hr : aB.contains t.tx = false := by simpa using hn.2
 rw [hr] at qN
 obtain ⟨P0, hP0⟩ := ae (t.at_)
 obtain ⟨J, hJ⟩ := ae (P0 + v.size)
 have Np : J = t.at_ + t.tx.length := by rw [← hJ, ← hP0, ← hv, dm]
 have hcall := wX (s := s.data.toList) (t := t) Np
 have Xm : r = wordsOf s.data.toList J := by rw [Np]; exact hwt.2
 rw [← Xm, hd, ak] at hcall
 have hJs : J ≤ s.size := by rw [Np]; omega
 have ZP := qh (show aO s i = P0 by rw [ea, hP0])
 have hJi : ((P0 : Nat) : Int) + (v.size : Nat) = (J : Nat) := by omega
 have hJw : IntKind.i64.wrap (((P0 : Nat) : Int) + (v.size : Nat)) = (J : Nat) := by rw [hJi]; exact IntWalk.i64_in _ (by omega)
 obtain ⟨i1, hi1⟩ := ae (aO s i + (aH s i).length)
 have HI1 := qh hi1
 rw [hi1] at Hu
 have yY : t.tx.length ≤ 4000 := by omega
 have J4 := qh yY
 have hJ1 : J < s.size := by
  have h1 : decide (J < s.size) = true := by
   cases h : decide (J < s.size) with
   | true => rfl
   | false => rw [h] at hcall; cases hcall
  exact of_decide_eq_true h1
 have Zt : (s[J]'hJ1).toNat = 40 := by
  rw [decide_eq_true hJ1, Bool.true_and, jo hJ1] at hcall
  have h2 := of_decide_eq_true hcall.symm
  rw [h2]; rfl
 have b40 : (((s[J]'hJ1).toNat : Int) == 40) = true := by simp; omega
 have abH : ((s[J]'hJ1).toNat == 40) = true := by simp; omega
 have Zr : ((J : Nat) : Int) < ((s.size : Nat) : Int) := by omega
 clear Zt
 obtain ⟨u, r', hur, abI⟩ : ∃ u r', r = u :: r' ∧ u.tx = [40] := by
  cases hr' : r with
  | nil => rw [hr'] at hd; cases hd
  | cons u r' =>
   rw [hr'] at hd
   have h1 : (decide (u.tx = [40]) && decide (u.at_ = t.at_ + t.tx.length)) = true := hd
   rw [Bool.and_eq_true, decide_eq_true_iff] at h1
   exact ⟨u, r', rfl, h1.1⟩
 have HCY := qh (fun W (Wp : aP W g s i) (hmW : TM W g) => hv ▸ U2 g s i W Wp hmW t u r' (by rw [hL, hur]) abI hy (fun L' h => hP L' (by rw [hur]; simp; omega)))
 have KG := qh (show r.tail = r' by rw [hur]; rfl)
 clear abI hy hP hur
 clear hr hn hu1 hcall Xm hP0 hi1 hR Np yY hcb hnb hstr jm hwt ea et eh htx h32 hc0 wV hv hL hp hm
 go_enter Tryz.func159, Tryz.ntmps159
 go_upto_region 1 with (fail)
 obtain ⟨W, hW, hkW, BR, hszW, hWs, -⟩ := dY g w
 have iZ := qh (show aP W g s i by rw [hW]; exact jD.out.alloc _)
 have oZ := qh (HM.out.kp hkW)
 have fV := qh BR
 rw [← hW]
 clear hW BR
 have d2 : W.cell? ⟨g, 2, none⟩ = some (.string v) := by have h := iZ.out.b.cell 2; rw [show tb (aH s i) = v from vK.out] at h; exact h
 have d3 : W.cell? ⟨g, 3, none⟩ = some (.bool false) := by have h := iZ.out.b.cell 3; rw [jf.out] at h; exact h
 have d1 : W.cell? ⟨g, 1, none⟩ = some (.int .i64 (P0 : Nat)) := by have h := iZ.out.b.cell 1; rw [ZP.out] at h; exact h
 go_upto_region 13 with (first | (go_at_call 80; (with_reducible refine (xx.out _).mono ?_); rintro e w1 ⟨rfl, rfl⟩) | (go_at_call 78; (with_reducible refine (tY.out _).mono ?_); rintro e w1 ⟨rfl, rfl⟩) | (go_at_call 100; (with_reducible refine (qN.out _).mono ?_); rintro e w1 ⟨rfl, rfl⟩))
 go_quiet (fail)
 obtain ⟨W1, hW1⟩ := au (W.drewN nq)
 have hb1 : Below W.heap.size W W1 := by rw [hW1]; exact (Below.refl _ _).drewN nq
 have xu := qh (iZ.out.below hb1)
 have pU := qh (hkW.trans (Kp.of hb1))
 have eG := qh (fV.out.below hb1 fV.out.lt)
 have hsz1 : W.heap.size ≤ W1.heap.size := hb1.size
 rw [← hW1]
 clear hW1 hb1 d1 d2 d3
 have d0 : W1.cell? ⟨g, 0, none⟩ = some (.string s) := xu.out.b.cell 0
 go_wp2_with fail
 have aeQ := HM.out.kp pU.out
 rw [KG.out] at FV
 obtain ⟨r2, hr2⟩ := ae (rH s.data.toList.length t.tx r')
 have HC := HCY.out W1 xu.out aeQ
 rw [hr2] at HC FV
 refine HC.mono ?_
 clear HC hr2
 cases r2 with
 | err k =>
  rintro e w2 ⟨rfl, hk2⟩
  have hend : R = .err k := FV.out
  go_wp2_with fail
  refine ⟨rfl, ?_⟩
  rw [hend]
  exact ⟨rfl, pU.out.trans hk2⟩
 | ok es l1 =>
  rintro e w2 ⟨y, i2, cs2, rfl, rfl, rfl, hx2, hp2, hk2⟩
  have Ii := qh hx2
  obtain ⟨hn2, hs2, hl2, ha2, Zu, Zv, hii2⟩ := hx2
  rename_i A1 c1 A2 c2 aeR
  clear Zu Zv hii2 hn2 hs2 hl2 ha2
  have U3 : (ai y A1 c1 A2 c2).toArray = #[.int .i64 y.k, .int .i64 y.op, .string y.nm, .int .i64 y.v.k, .int .i64 y.v.n, .string y.v.s, .slice A1 y.v.l.length c1, .slice A2 y.ar.length c2] := rfl
  rw [U3]
  clear U3
  have hsz2 : W1.heap.size ≤ w2.heap.size := hk2.size
  have HP2 := qh hp2
  have mG := qh (pU.out.trans hk2)
  have iC := qh (eG.out.kp hk2 (by omega))
  clear hp2 hk2
  go_upto_region 16 with (fail)
  obtain ⟨W3, hW3⟩ := au (w2.alloc (.cells #[.int .i64 y.k, .int .i64 y.op, .string y.nm, .int .i64 y.v.k, .int .i64 y.v.n, .string y.v.s, .slice A1 y.v.l.length c1, .slice A2 y.ar.length c2] 27 (0, 0)))
  have Dp := qh (show aP W3 g s i2 by rw [hW3]; exact HP2.out.alloc _)
  have qg := qh (show Kp g w W3 by rw [hW3]; exact mG.out.alloc _)
  have BR3 : ZB W3 w.heap.size := by rw [hW3]; exact iC.out.alloc _
  have BY3 : af W3 w2.heap.size 27 #[.int .i64 y.k, .int .i64 y.op, .string y.nm, .int .i64 y.v.k, .int .i64 y.v.n, .string y.v.s, .slice A1 y.v.l.length c1, .slice A2 y.ar.length c2] := by rw [hW3]; exact af.new w2 _ _
  have Zq := qh (show dK W3 (fun b => W.heap.size ≤ b) W3.heap.size y (ai y A1 c1 A2 c2) by
   rw [hW3]
   exact ((Ii.out.imp (q := fun b => W.heap.size ≤ b) (fun k hk _ => by omega)).keep (dG.of ((Below.refl _ _).alloc (Nat.le_refl _) _))).up (by simp))
  rw [← hW3]
  clear hW3
  obtain ⟨Qs, Qu, Qv, Qw, Qx, Qy, Qz, QA⟩ := af.c8 BY3
  obtain ⟨aQ, eX, aS, eY, aT, fD, aU, fE, aY, jR, aZ, jS, bu, jT, bz, jU⟩ := af.z8 BR3
  go_wp2_with fail
  refine bodyPost_ret (v := .agg #[.int .i64 y.k, .int .i64 y.op, .string y.nm, .int .i64 y.v.k, .int .i64 y.v.n, .string y.v.s, .slice A1 y.v.l.length c1, .slice A2 y.ar.length c2]) (by simp [results, Tryz.results159, go_sem, aQ, aS, aT, aU, aY, aZ, bu, bz]) rfl ?_
  rw [FV.out]
  exact rC Zq.out hWs hlt Dp.out qg.out
theorem H9 (s : ByteArray) (L : List Tok) (hP : ∀ L', L'.length < L.length → fK 31 .or s L') : fK 159 .az s L := by
 intro g i w hp hm hL
 cases L with
 | nil => exact Kq g s i w hp hL
 | cons t r =>
  by_cases ht : t.touch = true
  ·
   exact Eu g s i w hp hm t r hL ht
  have ht := Bool.eq_false_iff.2 ht
  by_cases hc : dF t.tx = true
  ·
   exact Ew g s i w hp hm t r hL ht hc
  have hc := Bool.eq_false_iff.2 hc
  by_cases uk : t.tx = [40]
  ·
   exact Ey g s i w hp hm t r hL ht uk (fun L' h => hP L' (by simp; omega))
  by_cases hn : nameB t.tx = true
  ·
   by_cases hd : jH t r = true
   ·
    by_cases hy : cZ t.tx = 0 ∧ gm t.tx = 0 ∧ t.tx ≠ pI
    ·
     exact Hy g s i w hp hm t r hL ht hc uk hn hd hy.1 hy.2.1 hy.2.2
    ·
     exact Hz g s i w hp hm t r hL ht hc uk hn hd hy (fun L' h => hP L' (by simp; omega))
   ·
    exact Ez g s i w hp hm t r hL ht hc uk hn (Bool.eq_false_iff.2 hd)
  ·
   exact Kr g s i w hp hm t r hL ht hc uk (Bool.eq_false_iff.2 hn)
structure aeS (s : ByteArray) (m : Nat) : Prop where
 or : ∀ L, kH .or L ≤ m → fK 31 .or s L
 and : ∀ L, kH .and L ≤ m → fK 55 .and s L
 not : ∀ L, kH .not L ≤ m → fK 86 .not s L
 sum : ∀ L, kH .sum L ≤ m → fK 112 .sum s L
 product : ∀ L, kH .product L ≤ m → fK 135 .product s L
 minus : ∀ L, kH .minus L ≤ m → fK 151 .minus s L
 az : ∀ L, kH .az L ≤ m → fK 159 .az s L
theorem Oo (s : ByteArray) : ∀ m, aeS s m
 | 0 => ⟨fun L h => by simp [kH, iF] at h, fun L h => by simp [kH, iF] at h, fun L h => by simp [kH, iF] at h, fun L h => by simp [kH, iF] at h, fun L h => by simp [kH, iF] at h, fun L h => by simp [kH, iF] at h, fun L h => by simp [kH, iF] at h⟩
 | m + 1 => by
  have ih := Oo s m
  refine ⟨fun L h => ?_, fun L h => ?_, fun L h => ?_, fun L h => ?_, fun L h => ?_, fun L h => ?_, fun L h => ?_⟩ <;> simp only [kH, iF] at h
  ·
   exact Wn s L (fun L' h' => ih.and L' (by simp only [kH, iF]; omega))
  ·
   exact TZ s L (fun L' h' => ih.not L' (by simp only [kH, iF]; omega))
  ·
   exact Uw s L (fun L' h' => ih.not L' (by simp only [kH, iF]; omega)) (fun L' h' => ih.sum L' (by simp only [kH, iF]; omega))
  ·
   exact Uu s L (fun L' h' => ih.product L' (by simp only [kH, iF]; omega))
  ·
   exact Hf s L (fun L' h' => ih.minus L' (by simp only [kH, iF]; omega))
  ·
   exact MI s L (fun L' h' => ih.minus L' (by simp only [kH, iF]; omega)) (ih.az L (by simp only [kH, iF]; omega))
  ·
   exact H9 s L (fun L' h' => ih.or L' (by simp only [kH, iF]; omega))
theorem Zw (s : ByteArray) (L : List Tok) : fK 31 .or s L := (Oo s (kH .or L)).or L (Nat.le_refl _)
end Go.Proofs.YtobanldeicclmaaGreatDoor
