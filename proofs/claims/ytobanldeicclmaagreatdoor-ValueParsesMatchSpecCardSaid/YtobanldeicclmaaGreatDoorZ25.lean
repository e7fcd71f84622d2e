/- Lemmas for the claim: walks and plain laws. -/
import Derived.Test.YtobanldeicclmaaGreatDoorZ24
import Derived.Test.YtobanldeicclmaaGreatDoorZ21
import Derived.Test.YtobanldeicclmaaGreatDoorZ16
set_option maxHeartbeats 8000000
set_option maxRecDepth 100000
namespace Go.Proofs.YtobanldeicclmaaGreatDoor
open Go.RowKit Vtx
attribute [local go_sem ↓] Go.wp_at_zero Go.wp_at_succ
theorem Uw (s : ByteArray) (L : List Tok) (hN : ∀ L', L'.length < L.length → fK 86 .not s L') (hS : ∀ L', L'.length ≤ L.length → fK 112 .sum s L') : fK 86 .not s L := by
 intro g i w hp hm hL
 have jD := qh hp
 have HM := qh hm
 have hlt := hp.b.lt
 have um := qh (bW s.data.toList.length .not [] L)
 obtain ⟨R, hR⟩ := ae (Pz s.data.toList.length .not [] L)
 rw [hR] at um ⊢
 dsimp only [dB] at um
 obtain ⟨b, hb⟩ := ae (kU L Gf)
 have HI := qh (fun (W' : World) (hp : aP W' g s i) => uM g s i W' hp Gf (by decide))
 rw [hL, hb, show tb Gf = ⟨#[110, 111, 116]⟩ from rfl] at HI
 have lu := qh hb
 clear hp hm hR hb
 cases b
 ·
  have um := qh (um.out.trans (if_neg (by rw [lu.out]; decide)))
  obtain ⟨r, hr⟩ := ae (Pz s.data.toList.length .sum [] L)
  have H1 := qh (fun W' (hp : aP W' g s i) hm => hr ▸ hS L (Nat.le_refl _) g i W' hp hm hL)
  have HR1 := qh hr
  rw [hr] at um
  have HSS := qh hS
  clear hr hN hS
  go_enter Tryz.func86, Tryz.ntmps86
  go_upto_region 1 with (fail)
  obtain ⟨W, hW, hkW, BR, hszW, hWs, -⟩ := dY g w
  have iZ := qh (show aP W g s i by rw [hW]; exact jD.out.alloc _)
  have oZ := qh (HM.out.kp hkW)
  have fV := qh BR
  rw [← hW]
  clear hW BR
  go_wp2_with (go_at_call 84; (with_reducible refine (HI.out _ iZ.out).mono ?_); rintro e w2 ⟨rfl, rfl⟩)
  refine (H1.out W iZ.out oZ.out).mono ?_
  cases r with
  | err k =>
   rintro e w1 ⟨rfl, hk1⟩
   go_wp2_with fail
   refine ⟨rfl, ?_⟩
   rw [um.out]
   exact ⟨rfl, hkW.trans hk1⟩
  | ok es l1 =>
   rintro e w1 ⟨y, i1, cs1, rfl, rfl, rfl, hx1, hp1, hk1⟩
   have xn := qh hx1
   obtain ⟨hn1, hs1, hl1, ha1, uS, uT, hii1⟩ := hx1
   rename_i A1 c1 A2 c2 Jr
   clear uS uT hii1 hn1 hs1 hl1 ha1
   have oq : (ai y A1 c1 A2 c2).toArray = #[.int .i64 y.k, .int .i64 y.op, .string y.nm, .int .i64 y.v.k, .int .i64 y.v.n, .string y.v.s, .slice A1 y.v.l.length c1, .slice A2 y.ar.length c2] := rfl
   rw [oq]
   clear oq
   have um := qh (show R = if bJ 4 11 (wordsOf s.data.toList i1) = 0 then .ok [y] (wordsOf s.data.toList i1) else (Pz s.data.toList.length .sum [] (wordsOf s.data.toList i1).tail).bind fun es2 l2 => .ok [bQ (bJ 4 11 (wordsOf s.data.toList i1)) ([y] ++ es2)] l2 from um.out)
   have LU := hk1.size
   have Ih := qh hp1
   have mW := qh (hkW.trans hk1)
   have eG := qh (fV.out.kp hk1 (by omega))
   have GX := qh (rV HR1.out)
   clear hp1
   go_upto_region 5 with (fail)
   obtain ⟨W1, hW1⟩ := au (w1.alloc (.cells #[.int .i64 y.k, .int .i64 y.op, .string y.nm, .int .i64 y.v.k, .int .i64 y.v.n, .string y.v.s, .slice A1 y.v.l.length c1, .slice A2 y.ar.length c2] 27 (0, 0)))
   have CG : W1.heap.size = w1.heap.size + 1 := by rw [hW1]; simp
   have xu := qh (show aP W1 g s i1 by rw [hW1]; exact Ih.out.alloc _)
   have pU := qh (show Kp g w W1 by rw [hW1]; exact mW.out.alloc _)
   have LY := qh (show ZB W1 w.heap.size by rw [hW1]; exact eG.out.alloc _)
   have ZH := qh (show af W1 w1.heap.size 27 #[.int .i64 y.k, .int .i64 y.op, .string y.nm, .int .i64 y.v.k, .int .i64 y.v.n, .string y.v.s, .slice A1 y.v.l.length c1, .slice A2 y.ar.length c2] by rw [hW1]; exact af.new w1 _ _)
   have XR := qh (show dK W1 (fun b => W.heap.size ≤ b) W1.heap.size y (ai y A1 c1 A2 c2) by
    rw [hW1]
    exact (xn.out.keep (dG.of ((Below.refl _ _).alloc (Nat.le_refl _) _))).up (by simp))
   rw [← hW1]
   clear hW1
   go_wp2_with fail
   refine (TS W1).mono ?_
   rintro e wc ⟨ta, rfl, hta, hbc⟩
   have Ie := qh hta
   have HPc := qh (xu.out.below hbc)
   have ZI := qh (pU.out.trans (Kp.of hbc))
   have JO := qh (LY.out.below hbc LY.out.lt)
   have WU := qh (ZH.out.below hbc ZH.out.lt)
   have HXc := qh ((XR.out.keep (dG.of hbc)).up hbc.size)
   have adt : W1.heap.size ≤ wc.heap.size := hbc.size
   obtain ⟨LW, YG⟩ := ae (wordsOf s.data.toList i1)
   have tY := qh YG
   have HI2 := qh (fun (W' : World) (hp : aP W' g s i1) (word : ByteArray) (hw : word.data.toList ≠ []) => (show Calls Tryz.prog 84 #[.pointer (some ⟨g, 0, none⟩), .string word] W' fun e w' => e = .returned (.bool (kU (wordsOf s.data.toList i1) word.data.toList)) ∧ W' = w' from by
    have h1 := uM g s i1 W' hp word.data.toList hw
    rwa [TA] at h1))
   rw [YG] at um GX HI2
   clear hta hbc YG
   go_wp2_with fail
   go_loopw [18, 5] (fun ix _ wz => ∃ k : Nat, k ≤ 8 ∧ ix = .int .i64 k ∧ Hid (∀ d ∈ lC.take k, kU LW d.1.data.toList = false) ∧ Below wc.heap.size wc wz) (fun ix _ _ => 8 - (intOf ix).toNat)
   case atStart => exact ⟨0, Nat.zero_le _, rfl, qh (fun d h => by simp at h), Below.refl _ _⟩
   case round =>
    obtain ⟨k, hk, rfl, rD, hbr⟩ := hrel
    have tV := hbr.size
    by_cases Ut : k < 8
    ·
     have hlt' : k < lC.length := Ut
     obtain ⟨ad, ci, had, -, hci, hcell⟩ := (Cb Ie.out hbr).at_ hlt'
     injection had with had
     subst had
     obtain ⟨d, JL⟩ := ae (lC[k])
     have hdm : d ∈ lC := by rw [← JL]; exact List.getElem_mem hlt'
     have lh := qh (show lC.take (k + 1) = lC.take k ++ [d] by rw [List.take_succ_eq_append_getElem hlt', JL])
     have Xw := qh (show kU LW d.1.data.toList = true → bJ 4 11 LW = d.2 from fun h => by rw [← JL]; exact Lu hlt' rD.out (by rw [JL]; exact h))
     rw [JL] at hci
     have fO := qh Ut
     have hwne : d.1.data.toList ≠ [] := by
      have h1 : (lC.all fun d => decide (d.1.data.toList ≠ [])) = true := by decide
      have h2 := List.all_eq_true.1 h1 d hdm
      rwa [decide_eq_true_iff] at h2
     obtain ⟨dw, xH⟩ := d
     have G7 : ci = [.string dw, .int .i64 xH] := hci
     subst G7
     have Ib : wr.cell? (ta.add (k * 2)) = some (.string dw) := hcell 0 _ rfl
     have KA : wr.cell? ⟨(ta.add (k * 2)).block, (ta.add (k * 2)).off + 1, none⟩ = some (.int .i64 xH) := hcell 1 _ rfl
     have hk0 : (0 : Int) ≤ (k : Nat) := by omega
     have ahv : (k : Int) < 8 := by omega
     have HD0 := qh (show xH ≠ 0 by
      have h1 : (lC.all fun d => decide (d.2 ≠ 0)) = true := by decide
      have h2 := List.all_eq_true.1 h1 _ hdm
      rwa [decide_eq_true_iff] at h2)
     clear hci hcell JL hdm hlt'
     go_upto_region 8 with (fail)
     obtain ⟨Ws, WV⟩ : ∃ Ws, Ws = wr.alloc (.cells #[.string dw, .int .i64 xH] 83 (0, 0)) := ⟨_, rfl⟩
     have hbs : Below wc.heap.size wc Ws := by rw [WV]; exact hbr.alloc tV _
     have HBS := qh (show af Ws wr.heap.size 83 #[.string dw, .int .i64 xH] by rw [WV]; exact af.new wr _ _)
     have HPs := qh (HPc.out.below hbs)
     have HKs := qh (ZI.out.trans (Kp.of hbs))
     rw [← WV]
     clear WV Ib KA
     have BS := HBS.out
     obtain ⟨sc0, sc1⟩ := af.c2 BS
     have hgr : g < wr.heap.size := Nat.lt_of_lt_of_le HPc.out.b.lt tV
     have YH := qh (HI2.out Ws HPs.out dw hwne)
     obtain ⟨b, hb⟩ := ae (kU LW dw.data.toList)
     rw [show kU LW (dw, xH).1.data.toList = b from hb] at Xw
     rw [hb] at YH
     clear hwne
     cases b
     ·
      have LH := qh (show ∀ d ∈ lC.take (k + 1), kU LW d.1.data.toList = false by
       rw [lh.out]
       intro x hx
       rcases List.mem_append.1 hx with h | h
       ·
        exact rD.out x h
       ·
        rw [List.mem_singleton] at h; rw [h]; exact hb)
      clear hb
      go_wp2_with (go_at_call 84; (with_reducible refine YH.out.mono ?_); rintro e w3 ⟨rfl, rfl⟩)
      go_roundw
      case rel => exact ⟨k + 1, fO.out, by go_num, LH, hbs⟩
      case measure =>
       have := fO.out
       simp [intOf]
       omega
     ·
      have KE := qh (Xw.out rfl)
      have htl := oh (s := s) (i := i1) (by rw [tY.out]; intro e; rw [e] at hb; cases hb)
      have HN := qh (next_any g s i1 Ws HPs.out)
      obtain ⟨i3, hi3⟩ := ae (aO s i1 + (aH s i1).length)
      rw [hi3] at HN htl
      have jW := qh htl
      clear hi3 htl hb
      go_upto_region 10 with (first | (go_at_call 84; (with_reducible refine YH.out.mono ?_); rintro e w3 ⟨rfl, rfl⟩) | (go_at_call 30; (with_reducible refine HN.out.mono ?_); rintro e w4 ⟨rfl, wu, hk4⟩; have vU := qh wu; have iK := qh hk4; clear wu hk4))
      obtain ⟨r2, hr2⟩ := ae (Pz s.data.toList.length .sum [] (wordsOf s.data.toList i3))
      have HC2 := qh (fun W' (hp : aP W' g s i3) hm => hr2 ▸ HSS.out (wordsOf s.data.toList i3) (by have h1 := jW.out.2; rw [tY.out] at h1; have h2 := GX.out; omega) g i3 W' hp hm rfl)
      have HR2 := qh hr2
      have En := qh (HKs.out.trans iK.out)
      have zF := qh (HM.out.kp En.out)
      have CY := qh ((WU.out.below hbs WU.out.lt).kp iK.out (by omega))
      have dL := qh ((JO.out.below hbs JO.out.lt).kp iK.out (by omega))
      have xw := qh (HBS.out.kp iK.out (by have := pU.out.size; omega))
      have PY := qh (((HXc.out.keep (dG.of hbs)).up hbs.size).N7 iK.out (fun k hk => by omega))
      have vW : W.heap.size ≤ w4.heap.size := by have := iK.out.size; have := hbs.size; have := pU.out.size; have := adt; omega
      clear hr2 sc0 sc1
      have B4 := CY.out
      have BS4 := xw.out
      obtain ⟨CJ, CO, Ea, Eb, Ec, Ed, Ee, Ef⟩ := af.c8 B4
      have sc1 : w4.cell? ⟨wr.heap.size, 1, none⟩ = some (.int .i64 xH) := BS4.cell 1
      cases r2 with
      | err k2 =>
       have hend : R = .err k2 := by rw [um.out, if_neg (by rw [KE.out]; exact HD0.out), ← tY.out, ← jW.out.1, HR2.out]; rfl
       have eH := qh hend
       clear hend
       refine wp_region_any (by kernel_rfl) ?_
       change wpAny _ _ _ _ _ _ _ (World.drew _)
       refine wpAny_take (i := 0) (v := ?v5) rfl (by kernel_rfl) (by kernel_rfl) (by kernel_rfl) (fun _ _ _ h => h) (Or.inl ⟨by rfl, ?y5⟩) ?r5
       case y5 =>
        intro w
        go_simp
        all_goals with_reducible rfl
       refine wpAny_take (i := 3) (v := ?v6) rfl (by kernel_rfl) (by kernel_rfl) (by kernel_rfl) (fun _ _ _ h => h) (Or.inl ⟨by rfl, ?y6⟩) ?r6
       case y6 =>
        intro w
        go_simp
        all_goals with_reducible rfl
       refine wpAny_ready (rs := [1, 2, 4]) (by kernel_rfl) (by simp) ?_
       refine AllReady.cons rfl (fun K hK => ?_) ?_
       go_simp
       refine hK _ _ ?_
       clear hK K
       refine wpAny_ready (rs := [2, 4]) (by kernel_rfl) (by simp) ?_
       refine AllReady.cons rfl (fun K hK => ?_) ?_
       go_simp
       refine hK _ _ ?_
       clear hK K
       refine ag (i := 4) (by kernel_rfl) rfl (fun K hK => ?_)
       go_simp
       go_wp2_with fail
       refine (HC2.out _ (vU.out.below (Below.refl _ _).drew) (zF.out.below (Below.refl _ _).drew)).mono ?_
       rintro e w5 ⟨rfl, hk5⟩
       go_wp2_with fail
       refine ⟨rfl, ?_⟩
       rw [eH.out]
       exact ⟨rfl, En.out.trans ((Kp.of (Below.refl _ _).drew).trans hk5)⟩
       refine AllReady.cons rfl (fun K hK => ?_) AllReady.nil
       go_simp
       go_wp2_with fail
       refine (HC2.out _ (vU.out.below (Below.refl _ _).drew) (zF.out.below (Below.refl _ _).drew)).mono ?_
       rintro e w5 ⟨rfl, hk5⟩
       go_wp2_with fail
       refine ⟨rfl, ?_⟩
       rw [eH.out]
       exact ⟨rfl, En.out.trans ((Kp.of (Below.refl _ _).drew).trans hk5)⟩
       refine AllReady.cons rfl (fun K hK => ?_) ?_
       go_simp
       refine hK _ _ ?_
       clear hK K
       refine wpAny_ready (rs := [1, 4]) (by kernel_rfl) (by simp) ?_
       refine AllReady.cons rfl (fun K hK => ?_) ?_
       go_simp
       refine hK _ _ ?_
       clear hK K
       refine ag (i := 4) (by kernel_rfl) rfl (fun K hK => ?_)
       go_simp
       go_wp2_with fail
       refine (HC2.out _ (vU.out.below (Below.refl _ _).drew) (zF.out.below (Below.refl _ _).drew)).mono ?_
       rintro e w5 ⟨rfl, hk5⟩
       go_wp2_with fail
       refine ⟨rfl, ?_⟩
       rw [eH.out]
       exact ⟨rfl, En.out.trans ((Kp.of (Below.refl _ _).drew).trans hk5)⟩
       refine AllReady.cons rfl (fun K hK => ?_) AllReady.nil
       go_simp
       go_wp2_with fail
       refine (HC2.out _ (vU.out.below (Below.refl _ _).drew) (zF.out.below (Below.refl _ _).drew)).mono ?_
       rintro e w5 ⟨rfl, hk5⟩
       go_wp2_with fail
       refine ⟨rfl, ?_⟩
       rw [eH.out]
       exact ⟨rfl, En.out.trans ((Kp.of (Below.refl _ _).drew).trans hk5)⟩
       refine AllReady.cons rfl (fun K hK => ?_) AllReady.nil
       go_simp
       go_wp2_with fail
       refine (HC2.out _ (vU.out.below (Below.refl _ _).drew) (zF.out.below (Below.refl _ _).drew)).mono ?_
       rintro e w5 ⟨rfl, hk5⟩
       go_wp2_with fail
       refine ⟨rfl, ?_⟩
       rw [eH.out]
       exact ⟨rfl, En.out.trans ((Kp.of (Below.refl _ _).drew).trans hk5)⟩
      | ok es2 l2 =>
       refine wp_region_any (by kernel_rfl) ?_
       change wpAny _ _ _ _ _ _ _ (World.drew _)
       refine wpAny_take (i := 0) (v := ?v7) rfl (by kernel_rfl) (by kernel_rfl) (by kernel_rfl) (fun _ _ _ h => h) (Or.inl ⟨by rfl, ?y7⟩) ?r7
       case y7 =>
        intro w
        go_simp
        all_goals with_reducible rfl
       refine wpAny_take (i := 3) (v := ?v8) rfl (by kernel_rfl) (by kernel_rfl) (by kernel_rfl) (fun _ _ _ h => h) (Or.inl ⟨by rfl, ?y8⟩) ?r8
       case y8 =>
        intro w
        go_simp
        all_goals with_reducible rfl
       refine wpAny_ready (rs := [1, 2, 4]) (by kernel_rfl) (by simp) ?_
       refine AllReady.cons rfl (fun K hK => ?_) ?_
       go_simp
       refine hK _ _ ?_
       clear hK K
       refine wpAny_ready (rs := [2, 4]) (by kernel_rfl) (by simp) ?_
       refine AllReady.cons rfl (fun K hK => ?_) ?_
       go_simp
       refine hK _ _ ?_
       clear hK K
       refine ag (i := 4) (by kernel_rfl) rfl (fun K hK => ?_)
       go_simp
       go_wp2_with fail
       refine (HC2.out _ (vU.out.below (Below.refl _ _).drew) (zF.out.below (Below.refl _ _).drew)).mono ?_
       rintro e w5 ⟨y2, i4, WS, rfl, rfl, rfl, hx5, xG, hk5⟩
       have tX := qh hx5
       obtain ⟨G9, hs5, hl5, Ha, sZ, tq, tu⟩ := hx5
       rename_i A3 c3 A4 c4 He
       clear sZ tq tu G9 hs5 hl5 Ha
       have mY : (ai y2 A3 c3 A4 c4).toArray = #[.int .i64 y2.k, .int .i64 y2.op, .string y2.nm, .int .i64 y2.v.k, .int .i64 y2.v.n, .string y2.v.s, .slice A3 y2.v.l.length c3, .slice A4 y2.ar.length c4] := rfl
       rw [mY]
       clear mY
       have B5 := (CY.out.below (Below.refl _ _).drew CY.out.lt).kp hk5 (by omega)
       have wE := (dL.out.below (Below.refl _ _).drew dL.out.lt).kp hk5 (by omega)
       have Oh := (xw.out.below (Below.refl _ _).drew xw.out.lt).kp hk5 (by omega)
       have sd1 : w5.cell? ⟨wr.heap.size, 1, none⟩ = some (.int .i64 xH) := Oh.cell 1
       have sd2 : (w5.alloc (.cells #[.int .i64 y.k, .int .i64 y.op, .string y.nm, .int .i64 y.v.k, .int .i64 y.v.n, .string y.v.s, .slice A1 y.v.l.length c1, .slice A2 y.ar.length c2, .int .i64 y2.k, .int .i64 y2.op, .string y2.nm, .int .i64 y2.v.k, .int .i64 y2.v.n, .string y2.v.s, .slice A3 y2.v.l.length c3, .slice A4 y2.ar.length c4] 27 (0, 0))).cell? ⟨wr.heap.size, 1, none⟩ = some (.int .i64 xH) := (Oh.alloc _).cell 1
       obtain ⟨Fp, KC, DZ, NS, Q9, Rf, Rh, PZ⟩ := af.c8 B5
       go_wp2_with fail
       refine ag (i := 5) (by kernel_rfl) rfl (fun K hK => ?_)
       go_simp
       refine hK _ _ ?_
       clear hK K
       rotate_left
       refine AllReady.cons rfl (fun K hK => ?_) AllReady.nil
       go_simp
       go_wp2_with fail
       refine (HC2.out _ (vU.out.below (Below.refl _ _).drew) (zF.out.below (Below.refl _ _).drew)).mono ?_
       rintro e w5 ⟨y2, i4, WS, rfl, rfl, rfl, hx5, xG, hk5⟩
       have tX := qh hx5
       obtain ⟨G9, hs5, hl5, Ha, sZ, tq, tu⟩ := hx5
       rename_i A3 c3 A4 c4 He
       clear sZ tq tu G9 hs5 hl5 Ha
       have mY : (ai y2 A3 c3 A4 c4).toArray = #[.int .i64 y2.k, .int .i64 y2.op, .string y2.nm, .int .i64 y2.v.k, .int .i64 y2.v.n, .string y2.v.s, .slice A3 y2.v.l.length c3, .slice A4 y2.ar.length c4] := rfl
       rw [mY]
       clear mY
       have B5 := (CY.out.below (Below.refl _ _).drew CY.out.lt).kp hk5 (by omega)
       have wE := (dL.out.below (Below.refl _ _).drew dL.out.lt).kp hk5 (by omega)
       have Oh := (xw.out.below (Below.refl _ _).drew xw.out.lt).kp hk5 (by omega)
       have sd1 : w5.cell? ⟨wr.heap.size, 1, none⟩ = some (.int .i64 xH) := Oh.cell 1
       have sd2 : (w5.alloc (.cells #[.int .i64 y.k, .int .i64 y.op, .string y.nm, .int .i64 y.v.k, .int .i64 y.v.n, .string y.v.s, .slice A1 y.v.l.length c1, .slice A2 y.ar.length c2, .int .i64 y2.k, .int .i64 y2.op, .string y2.nm, .int .i64 y2.v.k, .int .i64 y2.v.n, .string y2.v.s, .slice A3 y2.v.l.length c3, .slice A4 y2.ar.length c4] 27 (0, 0))).cell? ⟨wr.heap.size, 1, none⟩ = some (.int .i64 xH) := (Oh.alloc _).cell 1
       obtain ⟨Fp, KC, DZ, NS, Q9, Rf, Rh, PZ⟩ := af.c8 B5
       go_wp2_with fail
       refine ag (i := 2) (by kernel_rfl) rfl (fun K hK => ?_)
       go_simp
       refine hK _ _ ?_
       clear hK K
       refine ag (i := 5) (by kernel_rfl) rfl (fun K hK => ?_)
       go_simp
       refine hK _ _ ?_
       clear hK K
       rotate_left
       refine AllReady.cons rfl (fun K hK => ?_) ?_
       go_simp
       refine hK _ _ ?_
       clear hK K
       refine wpAny_ready (rs := [1, 4]) (by kernel_rfl) (by simp) ?_
       refine AllReady.cons rfl (fun K hK => ?_) ?_
       go_simp
       refine hK _ _ ?_
       clear hK K
       refine ag (i := 4) (by kernel_rfl) rfl (fun K hK => ?_)
       go_simp
       go_wp2_with fail
       refine (HC2.out _ (vU.out.below (Below.refl _ _).drew) (zF.out.below (Below.refl _ _).drew)).mono ?_
       rintro e w5 ⟨y2, i4, WS, rfl, rfl, rfl, hx5, xG, hk5⟩
       have tX := qh hx5
       obtain ⟨G9, hs5, hl5, Ha, sZ, tq, tu⟩ := hx5
       rename_i A3 c3 A4 c4 He
       clear sZ tq tu G9 hs5 hl5 Ha
       have mY : (ai y2 A3 c3 A4 c4).toArray = #[.int .i64 y2.k, .int .i64 y2.op, .string y2.nm, .int .i64 y2.v.k, .int .i64 y2.v.n, .string y2.v.s, .slice A3 y2.v.l.length c3, .slice A4 y2.ar.length c4] := rfl
       rw [mY]
       clear mY
       have B5 := (CY.out.below (Below.refl _ _).drew CY.out.lt).kp hk5 (by omega)
       have wE := (dL.out.below (Below.refl _ _).drew dL.out.lt).kp hk5 (by omega)
       have Oh := (xw.out.below (Below.refl _ _).drew xw.out.lt).kp hk5 (by omega)
       have sd1 : w5.cell? ⟨wr.heap.size, 1, none⟩ = some (.int .i64 xH) := Oh.cell 1
       have sd2 : (w5.alloc (.cells #[.int .i64 y.k, .int .i64 y.op, .string y.nm, .int .i64 y.v.k, .int .i64 y.v.n, .string y.v.s, .slice A1 y.v.l.length c1, .slice A2 y.ar.length c2, .int .i64 y2.k, .int .i64 y2.op, .string y2.nm, .int .i64 y2.v.k, .int .i64 y2.v.n, .string y2.v.s, .slice A3 y2.v.l.length c3, .slice A4 y2.ar.length c4] 27 (0, 0))).cell? ⟨wr.heap.size, 1, none⟩ = some (.int .i64 xH) := (Oh.alloc _).cell 1
       obtain ⟨Fp, KC, DZ, NS, Q9, Rf, Rh, PZ⟩ := af.c8 B5
       go_wp2_with fail
       refine ag (i := 5) (by kernel_rfl) rfl (fun K hK => ?_)
       go_simp
       refine hK _ _ ?_
       clear hK K
       rotate_left
       refine AllReady.cons rfl (fun K hK => ?_) AllReady.nil
       go_simp
       go_wp2_with fail
       refine (HC2.out _ (vU.out.below (Below.refl _ _).drew) (zF.out.below (Below.refl _ _).drew)).mono ?_
       rintro e w5 ⟨y2, i4, WS, rfl, rfl, rfl, hx5, xG, hk5⟩
       have tX := qh hx5
       obtain ⟨G9, hs5, hl5, Ha, sZ, tq, tu⟩ := hx5
       rename_i A3 c3 A4 c4 He
       clear sZ tq tu G9 hs5 hl5 Ha
       have mY : (ai y2 A3 c3 A4 c4).toArray = #[.int .i64 y2.k, .int .i64 y2.op, .string y2.nm, .int .i64 y2.v.k, .int .i64 y2.v.n, .string y2.v.s, .slice A3 y2.v.l.length c3, .slice A4 y2.ar.length c4] := rfl
       rw [mY]
       clear mY
       have B5 := (CY.out.below (Below.refl _ _).drew CY.out.lt).kp hk5 (by omega)
       have wE := (dL.out.below (Below.refl _ _).drew dL.out.lt).kp hk5 (by omega)
       have Oh := (xw.out.below (Below.refl _ _).drew xw.out.lt).kp hk5 (by omega)
       have sd1 : w5.cell? ⟨wr.heap.size, 1, none⟩ = some (.int .i64 xH) := Oh.cell 1
       have sd2 : (w5.alloc (.cells #[.int .i64 y.k, .int .i64 y.op, .string y.nm, .int .i64 y.v.k, .int .i64 y.v.n, .string y.v.s, .slice A1 y.v.l.length c1, .slice A2 y.ar.length c2, .int .i64 y2.k, .int .i64 y2.op, .string y2.nm, .int .i64 y2.v.k, .int .i64 y2.v.n, .string y2.v.s, .slice A3 y2.v.l.length c3, .slice A4 y2.ar.length c4] 27 (0, 0))).cell? ⟨wr.heap.size, 1, none⟩ = some (.int .i64 xH) := (Oh.alloc _).cell 1
       obtain ⟨Fp, KC, DZ, NS, Q9, Rf, Rh, PZ⟩ := af.c8 B5
       go_wp2_with fail
       refine wpAny_ready (rs := [1, 5]) (by kernel_rfl) (by simp) ?_
       refine AllReady.cons rfl (fun K hK => ?_) ?_
       go_simp
       refine hK _ _ ?_
       clear hK K
       refine ag (i := 5) (by kernel_rfl) rfl (fun K hK => ?_)
       go_simp
       refine hK _ _ ?_
       clear hK K
       rotate_left
       refine AllReady.cons rfl (fun K hK => ?_) AllReady.nil
       go_simp
       refine hK _ _ ?_
       clear hK K
       refine ag (i := 1) (by kernel_rfl) rfl (fun K hK => ?_)
       go_simp
       refine hK _ _ ?_
       clear hK K
       rotate_left
       refine AllReady.cons rfl (fun K hK => ?_) AllReady.nil
       go_simp
       go_wp2_with fail
       refine (HC2.out _ (vU.out.below (Below.refl _ _).drew) (zF.out.below (Below.refl _ _).drew)).mono ?_
       rintro e w5 ⟨y2, i4, WS, rfl, rfl, rfl, hx5, xG, hk5⟩
       have tX := qh hx5
       obtain ⟨G9, hs5, hl5, Ha, sZ, tq, tu⟩ := hx5
       rename_i A3 c3 A4 c4 He
       clear sZ tq tu G9 hs5 hl5 Ha
       have mY : (ai y2 A3 c3 A4 c4).toArray = #[.int .i64 y2.k, .int .i64 y2.op, .string y2.nm, .int .i64 y2.v.k, .int .i64 y2.v.n, .string y2.v.s, .slice A3 y2.v.l.length c3, .slice A4 y2.ar.length c4] := rfl
       rw [mY]
       clear mY
       have B5 := (CY.out.below (Below.refl _ _).drew CY.out.lt).kp hk5 (by omega)
       have wE := (dL.out.below (Below.refl _ _).drew dL.out.lt).kp hk5 (by omega)
       have Oh := (xw.out.below (Below.refl _ _).drew xw.out.lt).kp hk5 (by omega)
       have sd1 : w5.cell? ⟨wr.heap.size, 1, none⟩ = some (.int .i64 xH) := Oh.cell 1
       have sd2 : (w5.alloc (.cells #[.int .i64 y.k, .int .i64 y.op, .string y.nm, .int .i64 y.v.k, .int .i64 y.v.n, .string y.v.s, .slice A1 y.v.l.length c1, .slice A2 y.ar.length c2, .int .i64 y2.k, .int .i64 y2.op, .string y2.nm, .int .i64 y2.v.k, .int .i64 y2.v.n, .string y2.v.s, .slice A3 y2.v.l.length c3, .slice A4 y2.ar.length c4] 27 (0, 0))).cell? ⟨wr.heap.size, 1, none⟩ = some (.int .i64 xH) := (Oh.alloc _).cell 1
       obtain ⟨Fp, KC, DZ, NS, Q9, Rf, Rh, PZ⟩ := af.c8 B5
       go_wp2_with fail
       refine wpAny_ready (rs := [1, 2]) (by kernel_rfl) (by simp) ?_
       refine AllReady.cons rfl (fun K hK => ?_) ?_
       go_simp
       refine hK _ _ ?_
       clear hK K
       refine ag (i := 2) (by kernel_rfl) rfl (fun K hK => ?_)
       go_simp
       refine hK _ _ ?_
       clear hK K
       refine ag (i := 5) (by kernel_rfl) rfl (fun K hK => ?_)
       go_simp
       refine hK _ _ ?_
       clear hK K
       rotate_left
       refine AllReady.cons rfl (fun K hK => ?_) AllReady.nil
       go_simp
       refine hK _ _ ?_
       clear hK K
       refine wpAny_ready (rs := [1, 5]) (by kernel_rfl) (by simp) ?_
       refine AllReady.cons rfl (fun K hK => ?_) ?_
       go_simp
       refine hK _ _ ?_
       clear hK K
       refine ag (i := 5) (by kernel_rfl) rfl (fun K hK => ?_)
       go_simp
       refine hK _ _ ?_
       clear hK K
       rotate_left
       refine AllReady.cons rfl (fun K hK => ?_) AllReady.nil
       go_simp
       refine hK _ _ ?_
       clear hK K
       refine ag (i := 1) (by kernel_rfl) rfl (fun K hK => ?_)
       go_simp
       refine hK _ _ ?_
       clear hK K
       rotate_left
       all_goals
        refine ag (i := 6) (by kernel_rfl) rfl (fun K hK => ?_)
        go_simp
        go_wp2_with fail
        refine (ji xH _ 2 2 _).mono ?_
        rintro e w6 ⟨rfl, hb6⟩
        have B6 := (wE.alloc (.cells #[.int .i64 y.k, .int .i64 y.op, .string y.nm, .int .i64 y.v.k, .int .i64 y.v.n, .string y.v.s, .slice A1 y.v.l.length c1, .slice A2 y.ar.length c2, .int .i64 y2.k, .int .i64 y2.op, .string y2.nm, .int .i64 y2.v.k, .int .i64 y2.v.n, .string y2.v.s, .slice A3 y2.v.l.length c3, .slice A4 y2.ar.length c4] 27 (0, 0))).below hb6 (wE.alloc _).lt
        obtain ⟨aQ, eX, aS, eY, aT, fD, aU, fE, aY, jR, aZ, jS, bu, jT, bz, jU⟩ := af.z8 B6
        go_wp2_with fail
        refine ag (i := 7) (by kernel_rfl) rfl (fun K hK => ?_)
        go_simp
        refine hK _ _ ?_
        clear hK K
        refine wpAny_done (by kernel_rfl) ?_ _
        have hs5 := hk5.size
        have WJ : w4.heap.size ≤ w5.heap.size := by simpa using hs5
        have hend : R = .ok [bQ xH [y, y2]] (wordsOf s.data.toList i4) := by rw [um.out, if_neg (by rw [KE.out]; exact HD0.out), KE.out, ← tY.out, ← jW.out.1, HR2.out]; rfl
        have eH := qh hend
        clear hend
        go_wp2_with fail
        refine bodyPost_ret (v := .agg #[.int .i64 4, .int .i64 xH, .string ⟨#[]⟩, .int .i64 0, .int .i64 0, .string ⟨#[]⟩, .slice none 0 0, .slice (some ⟨w5.heap.size, 0, none⟩) 2 2]) (by simp [results, Tryz.results86, go_sem, aQ, aS, aT, aU, aY, aZ, bu, bz]) rfl ?_
        rw [eH.out]
        exact rC (L := W.heap.size) (LD xH (((PY.out.keep (dG.of (Below.refl _ _).drew)).up (by simp)).N7 hk5 (fun k hk => by omega)) (tX.out.imp (fun k hk _ => by simp at hk; omega)) hb6 (fun k hk => by omega)) hWs hlt ((xG.alloc (.cells #[.int .i64 y.k, .int .i64 y.op, .string y.nm, .int .i64 y.v.k, .int .i64 y.v.n, .string y.v.s, .slice A1 y.v.l.length c1, .slice A2 y.ar.length c2, .int .i64 y2.k, .int .i64 y2.op, .string y2.nm, .int .i64 y2.v.k, .int .i64 y2.v.n, .string y2.v.s, .slice A3 y2.v.l.length c3, .slice A4 y2.ar.length c4] 27 (0, 0))).below hb6) (((En.out.trans ((Kp.of (Below.refl _ _).drew).trans hk5)).alloc (.cells #[.int .i64 y.k, .int .i64 y.op, .string y.nm, .int .i64 y.v.k, .int .i64 y.v.n, .string y.v.s, .slice A1 y.v.l.length c1, .slice A2 y.ar.length c2, .int .i64 y2.k, .int .i64 y2.op, .string y2.nm, .int .i64 y2.v.k, .int .i64 y2.v.n, .string y2.v.s, .slice A3 y2.v.l.length c3, .slice A4 y2.ar.length c4] 27 (0, 0))).trans (Kp.of hb6))
    ·
     have hall : ∀ d ∈ lC, kU LW d.1.data.toList = false := by
      have h := rD.out
      rwa [List.take_of_length_le (show lC.length ≤ k by show 8 ≤ k; omega)] at h
     have hend : R = .ok [y] (wordsOf s.data.toList i1) := by rw [um.out, if_pos (PK hall), tY.out]
     have eH := qh hend
     have B2 := WU.out.below hbr WU.out.lt
     have B3 := JO.out.below hbr JO.out.lt
     clear hall hend
     obtain ⟨CJ, CO, Ea, Eb, Ec, Ed, Ee, Ef⟩ := af.c8 B2
     obtain ⟨aQ, eX, aS, eY, aT, fD, aU, fE, aY, jR, aZ, jS, bu, jT, bz, jU⟩ := af.z8 B3
     go_wp2_with fail
     refine bodyPost_ret (v := .agg #[.int .i64 y.k, .int .i64 y.op, .string y.nm, .int .i64 y.v.k, .int .i64 y.v.n, .string y.v.s, .slice A1 y.v.l.length c1, .slice A2 y.ar.length c2]) (by simp [results, Tryz.results86, go_sem, aQ, aS, aT, aU, aY, aZ, bu, bz]) rfl ?_
     rw [eH.out]
     exact rC (L := W.heap.size) ((HXc.out.keep (dG.of hbr)).up hbr.size) hWs hlt (HPc.out.below hbr) (ZI.out.trans (Kp.of hbr))
 ·
  have um := qh (um.out.trans (if_pos lu.out))
  have htl := oh (s := s) (i := i) (by rw [hL]; intro e; have h := lu.out; rw [e] at h; cases h)
  have HN := qh (fun W (hp : aP W g s i) => next_any g s i W hp)
  obtain ⟨i2, hi2⟩ := ae (aO s i + (aH s i).length)
  rw [hi2] at HN htl
  have jW := qh htl
  obtain ⟨r2, hr2⟩ := ae (Pz s.data.toList.length .not [] (wordsOf s.data.toList i2))
  have HC2 := qh (fun W' (hp : aP W' g s i2) hm => hr2 ▸ hN (wordsOf s.data.toList i2) (by have := jW.out.2; rw [hL] at this; omega) g i2 W' hp hm rfl)
  have HR2 := qh hr2
  have YI := qh hL
  clear hr2 hN hS htl hi2
  go_enter Tryz.func86, Tryz.ntmps86
  go_upto_region 1 with (fail)
  obtain ⟨W, hW, hkW, BR, hszW, hWs, -⟩ := dY g w
  have iZ := qh (show aP W g s i by rw [hW]; exact jD.out.alloc _)
  have oZ := qh (HM.out.kp hkW)
  have fV := qh BR
  rw [← hW]
  clear hW BR
  go_wp2_with (first | (go_at_call 84; (with_reducible refine (HI.out _ iZ.out).mono ?_); rintro e w3 ⟨rfl, rfl⟩) | (go_at_call 30; (with_reducible refine (HN.out _ iZ.out).mono ?_); rintro e w2 ⟨rfl, hp2, hk2⟩; have HP2 := qh hp2; have HW2 := qh hk2; have mG := qh (hkW.trans hk2); have iC := qh (fV.out.kp hk2 (by omega)); clear hp2 hk2))
  refine (HC2.out w2 HP2.out (HM.out.kp mG.out)).mono ?_
  have zH : W.heap.size ≤ w2.heap.size := HW2.out.size
  cases r2 with
  | err k2 =>
   rintro e w5 ⟨rfl, hk5⟩
   have hend : R = .err k2 := by rw [um.out, ← YI.out, ← jW.out.1]; rw [HR2.out]; rfl
   go_wp2_with fail
   refine ⟨rfl, ?_⟩
   rw [hend]
   exact ⟨rfl, mG.out.trans hk5⟩
  | ok es2 l2 =>
   rintro e w5 ⟨y, i4, WS, rfl, rfl, rfl, hx5, xG, hk5⟩
   have tX := qh hx5
   obtain ⟨G9, hs5, hl5, Ha, sZ, tq, tu⟩ := hx5
   rename_i A1 c1 A2 c2 He
   clear sZ tq tu G9 hs5 hl5 Ha
   have mY : (ai y A1 c1 A2 c2).toArray = #[.int .i64 y.k, .int .i64 y.op, .string y.nm, .int .i64 y.v.k, .int .i64 y.v.n, .string y.v.s, .slice A1 y.v.l.length c1, .slice A2 y.ar.length c2] := rfl
   rw [mY]
   clear mY
   have hend : R = .ok [bQ 1 [y]] (wordsOf s.data.toList i4) := by rw [um.out, ← YI.out, ← jW.out.1]; rw [HR2.out]; rfl
   have sK := qh (iC.out.kp hk5 (by omega))
   have hs5 := hk5.size
   go_wp2_with fail
   refine (ji 1 _ 1 1 _).mono ?_
   rintro e w6 ⟨rfl, hb6⟩
   have B6 := (sK.out.alloc (.cells #[.int .i64 y.k, .int .i64 y.op, .string y.nm, .int .i64 y.v.k, .int .i64 y.v.n, .string y.v.s, .slice A1 y.v.l.length c1, .slice A2 y.ar.length c2] 27 (0, 0))).below hb6 (sK.out.alloc _).lt
   obtain ⟨aQ, eX, aS, eY, aT, fD, aU, fE, aY, jR, aZ, jS, bu, jT, bz, jU⟩ := af.z8 B6
   go_wp2_with fail
   refine bodyPost_ret (v := .agg #[.int .i64 4, .int .i64 1, .string ⟨#[]⟩, .int .i64 0, .int .i64 0, .string ⟨#[]⟩, .slice none 0 0, .slice (some ⟨w5.heap.size, 0, none⟩) 1 1]) (by simp [results, Tryz.results86, go_sem, aQ, aS, aT, aU, aY, aZ, bu, bz]) rfl ?_
   rw [hend]
   exact rC (L := W.heap.size) (GK 1 (tX.out.imp (fun k hk _ => by omega)) hb6 (fun k hk => by omega)) hWs hlt ((xG.alloc _).below hb6) (((mG.out.trans hk5).alloc _).trans (Kp.of hb6))
theorem jX {s : ByteArray} {i : Nat} {t : Tok} (h : bV s.data.toList i = some t) : aO s i = t.at_ ∧ aH s i = t.tx ∧ gq s i = t.touch := by unfold aO aH gq; rw [h]; exact ⟨rfl, rfl, rfl⟩
theorem tC (x : List UInt8) (w : World) : Calls Tryz.prog 182 #[.string (tb x)] w fun e w' => e = .returned (.int .i64 (cZ x)) ∧ Below w.heap.size w w' := by
 obtain ⟨u, hu⟩ := ae (tb x)
 have HU := qh hu
 rw [hu]
 clear hu
 go_enter Tryz.func182, Tryz.ntmps182
 go_wp2_with fail
 refine (D7 w).mono ?_
 rintro en W ⟨ad0, rfl, hL, hbw⟩
 have HL := qh hL
 clear hL
 go_wp2_with fail
 go_loopw [7, 3, 4] (fun i _ _ wz => ∃ k : Nat, k ≤ 7 ∧ i = .int .i64 k ∧ Hid (∀ j : Nat, 0 < j → j < k → pF (j : Nat) ≠ x) ∧ wz = W) (fun i _ _ _ => 7 - (intOf i).toNat)
 case atStart => exact ⟨0, Nat.zero_le _, rfl, qh (fun j h1 h2 => by omega), rfl⟩
 case round =>
  obtain ⟨k, hk, rfl, rD, rfl⟩ := hrel
  by_cases hlt : k < 7
  ·
   have hlt' : k < yJ.length := hlt
   obtain ⟨ad, had, hb, hcell⟩ := HL.out.2 (by decide)
   injection had with had
   subst had
   have hsk : (Gu yJ)[k]? = some (.string (tb (pF (k : Nat)))) := by
    unfold Gu
    rw [List.getElem?_map, List.getElem?_eq_getElem hlt']
    rw [Option.map_some, WM k hlt']
   have Ib := hcell k _ hsk
   obtain ⟨v, hv⟩ := ae (tb (pF (k : Nat)))
   rw [hv] at Ib
   have fO := qh hlt
   have hk0 : (0 : Int) ≤ (k : Nat) := by omega
   have hk1 : (k : Int) < 7 := by omega
   clear hsk hcell hb
   by_cases hp : 0 < k
   ·
    have HP := qh hp
    have hpi : (0 : Int) < (k : Nat) := by omega
    by_cases he : pF (k : Nat) = x
    ·
     have bs : (v.toList == u.toList) = true := jg (by rw [← hv, ← HU.out, he])
     have HF := qh (LZ hp hlt he)
     clear he hv hp
     go_wp2_with fail
     go_ret
     exact ⟨by rw [HF.out]; rfl, hbw⟩
    ·
     have bs : (v.toList == u.toList) = false := bZ (fun e => he (uK (by rw [hv, HU.out, e])))
     have LH := qh (show ∀ j : Nat, 0 < j → j < k + 1 → pF (j : Nat) ≠ x from fun j h1 h2 => by
      by_cases hj : j = k
      ·
       subst hj; exact he
      ·
       exact rD.out j h1 (by omega))
     clear he hv hp
     go_wp2_with fail
     go_roundw
     case rel => exact ⟨k + 1, fO.out, by go_num, LH, trivial⟩
     case measure =>
      have := fO.out
      simp [intOf]
      omega
   ·
    have hpi : ¬ (0 : Int) < (k : Nat) := by omega
    have HK0 := qh (show k = 0 by omega)
    clear hp hv
    go_wp2_with fail
    go_roundw
    case rel => exact ⟨k + 1, fO.out, by go_num, qh (fun j h1 h2 => by have := HK0.out; omega), trivial⟩
    case measure =>
     have := fO.out
     simp [intOf]
     omega
  ·
   have HF := qh (Qd (w := x) (fun j h1 h2 => rD.out j h1 (by omega)))
   clear rD
   go_wp2_with fail
   go_ret
   exact ⟨by rw [HF.out]; rfl, hbw⟩
theorem xZ (x : List UInt8) (w : World) : Calls Tryz.prog 183 #[.string (tb x)] w fun e w' => e = .returned (.int .i64 (gm x)) ∧ Below w.heap.size w w' := by
 obtain ⟨u, hu⟩ := ae (tb x)
 have HU := qh hu
 rw [hu]
 clear hu
 go_enter Tryz.func183, Tryz.ntmps183
 go_wp2_with fail
 refine (TT w).mono ?_
 rintro en W ⟨ad0, rfl, hL, hbw⟩
 have HL := qh hL
 have hstart : Below W.heap.size W W := Below.refl _ _
 clear hL
 go_wp2_with fail
 go_loopw [7, 4] (fun i _ wz => ∃ k : Nat, k ≤ 22 ∧ i = .int .i64 k ∧ Hid (∀ d ∈ kz.take k, d.1.data.toList ≠ x) ∧ Below W.heap.size W wz) (fun i _ _ => 22 - (intOf i).toNat)
 case atStart => exact ⟨0, Nat.zero_le _, rfl, qh (fun d h => by simp at h), hstart⟩
 case round =>
  obtain ⟨k, hk, rfl, rD, hbr⟩ := hrel
  have tV := hbr.size
  by_cases hlt : k < 22
  ·
   have hlt' : k < kz.length := hlt
   obtain ⟨ad, ci, had, hb, hci, hcell⟩ := (Cb HL.out hbr).at_ hlt'
   injection had with had
   subst had
   obtain ⟨d, JL⟩ := ae (kz[k])
   have HST := qh (show kz.take (k + 1) = kz.take k ++ [d] by rw [List.take_succ_eq_append_getElem hlt', JL])
   have Xw := qh (show d.1.data.toList = x → gm x = d.2 from fun h => by rw [← JL]; exact LC hlt' rD.out (by rw [JL]; exact h))
   rw [JL] at hci
   have fO := qh hlt
   obtain ⟨dw, xH⟩ := d
   have G7 : ci = [.string dw, .int .i64 xH] := hci
   subst G7
   have Ib : wr.cell? (ad0.add (k * 2)) = some (.string dw) := hcell 0 _ rfl
   have KA : wr.cell? ⟨(ad0.add (k * 2)).block, (ad0.add (k * 2)).off + 1, none⟩ = some (.int .i64 xH) := hcell 1 _ rfl
   have hk0 : (0 : Int) ≤ (k : Nat) := by omega
   have hk1 : (k : Int) < 22 := by omega
   clear hci hcell JL hb hlt'
   by_cases ho : dw.data.toList = x
   ·
    have bo : (dw.toList == u.toList) = true := jg (by rw [← HU.out, ← ho, TA])
    have HR := qh (Xw.out ho)
    clear ho
    go_wp2_with fail
    go_ret
    exact ⟨by rw [HR.out]; rfl, hbw.trans ((hbr.alloc tV _).mono hbw.size)⟩
   ·
    have bo : (dw.toList == u.toList) = false := bZ (fun e => ho (by rw [e, ← HU.out, bT]))
    have LH := qh (show ∀ d ∈ kz.take (k + 1), d.1.data.toList ≠ x by
     rw [HST.out]
     intro y hy
     rcases List.mem_append.1 hy with h | h
     ·
      exact rD.out y h
     ·
      rw [List.mem_singleton] at h; rw [h]; exact ho)
    clear ho
    go_wp2_with fail
    go_roundw
    case rel => exact ⟨k + 1, fO.out, by go_num, LH, hbr.alloc tV _⟩
    case measure =>
     have := fO.out
     simp [intOf]
     omega
  ·
   have Yz := qh (show gm x = 0 from PN (by have h := rD.out; rwa [List.take_of_length_le (show kz.length ≤ k by show 22 ≤ k; omega)] at h))
   clear rD
   go_wp2_with fail
   go_ret
   exact ⟨by rw [Yz.out]; rfl, hbw.trans (hbr.mono hbw.size)⟩
def WW (w : World) (g : Nat) (s : ByteArray) (i : Nat) (e : Ending) (w' : World) : Prop := match nameAt (wordsOf s.data.toList i) with
 | some x => ∃ i', e = .returned (.string (tb x)) ∧ wordsOf s.data.toList i' = (wordsOf s.data.toList i).tail ∧ aP w' g s i' ∧ Kp g w w'
 | none => e = Fv (dO s.data.toList.length (wordsOf s.data.toList i)) ∧ w = w'
theorem JP (g : Nat) (s : ByteArray) (i : Nat) (w : World) (h : aP w g s i) : Calls Tryz.prog 184 #[.pointer (some ⟨g, 0, none⟩)] w fun e w' => WW w g s i e w' := by
 have jD := qh h
 have HW := qh (iI g s i w h)
 have HN := qh (next_any g s i w h)
 have c2 : w.cell? ⟨g, 2, none⟩ = some (.string (tb (aH s i))) := h.b.cell 2
 have c3 : w.cell? ⟨g, 3, none⟩ = some (.bool (gq s i)) := h.b.cell 3
 have HPL := qh (lT s i)
 unfold WW
 rw [HPL.out]
 cases ht : bV s.data.toList i with
 | none =>
  have hw := nY ht
  have e2 : aH s i = [] := by unfold aH; rw [ht]
  rw [e2] at c2
  rw [show nameAt (wordsOf s.data.toList i) = none by rw [hw]; rfl]
  change w.cell? ⟨g, 2, none⟩ = some (.string ⟨#[]⟩) at c2
  clear hw e2 ht h jD HN
  go_enter Tryz.func184, Tryz.ntmps184
  go_wp2_with (go_at_call 32; (with_reducible refine HW.out.mono ?_); rintro e w1 ⟨rfl, rfl⟩)
  exact ⟨rfl, rfl, rfl⟩
 | some t =>
  obtain ⟨ea, et, eh⟩ := jX ht
  obtain ⟨tl, htx, h32⟩ := nX ht
  obtain ⟨c0, hc0⟩ := ae (s.data.toList.getD t.at_ 0)
  rw [hc0] at htx
  have hw : wordsOf s.data.toList i = t :: wordsOf s.data.toList (t.at_ + t.tx.length) := by rw [eQ, ht]
  rw [et] at c2
  rw [eh] at c3
  have hna : nameAt (wordsOf s.data.toList i) = if !t.touch && (dE c0 && !aB.contains t.tx) then some t.tx else none := by
   have hnb : nameB t.tx = (dE c0 && !aB.contains t.tx) := by
    unfold nameB
    congr 1
    rw [htx]
   rw [hw, ← hnb]
   rfl
  rw [hna]
  obtain ⟨u, hu⟩ := ae (tb t.tx)
  have hu0 : 0 < u.size := by rw [← hu, dm, htx]; simp
  have hu1 : u[0] = c0 := by
   subst hu
   have h1 : (tb t.tx).data.toList[0]? = some c0 := by rw [bT, htx]; rfl
   have h2 : (tb t.tx).data.toList[0]? = some (tb t.tx)[0] := by
    rw [List.getElem?_eq_getElem (by rw [ak]; exact hu0)]; rfl
   rw [h2] at h1
   injection h1
  have hne : (u.toList == (⟨#[]⟩ : ByteArray).toList) = false := bZ (fun e => by rw [e] at hu0; exact absurd hu0 (by decide))
  have hem : u.toList.isEmpty = false := by
   cases h : u.toList.isEmpty with
   | false => rfl
   | true =>
    have h1 : u.toList = [] := List.isEmpty_iff.1 h
    have h2 : (u.toList == (⟨#[]⟩ : ByteArray).toList) = true := by rw [h1]; simp
    rw [hne] at h2; cases h2
  have tY := qh (show ∀ w', Calls Tryz.prog 78 #[.int .u8 (u[0].toNat : Nat)] w' fun e w'' => e = .returned (.bool (dE c0)) ∧ w' = w'' from fun w' => by rw [hu1]; exact nZ c0 w')
  have qN := qh (show ∀ w', Calls Tryz.prog 100 #[.string u] w' fun e w'' => e = .returned (.bool (aB.contains t.tx)) ∧ w' = w'' from fun w' => by
   have h1 := mQ u w'
   rwa [show u.data.toList = t.tx from by rw [← hu, bT]] at h1)
  have HU := qh hu
  have x9 := qh (show wordsOf s.data.toList (aO s i + (aH s i).length) = (wordsOf s.data.toList i).tail by rw [ea, et, hw]; rfl)
  rw [hu] at c2
  obtain ⟨tt, htt⟩ := ae (t.touch)
  obtain ⟨bl, hbl⟩ := ae (dE c0)
  obtain ⟨br, hbr⟩ := ae (aB.contains t.tx)
  rw [htt] at c3
  rw [htt, hbl, hbr]
  rw [hbl] at tY
  rw [hbr] at qN
  clear hu hu1 htt hbl hbr hna hw htx h32 hc0 ea et eh ht h
  cases tt
  ·
   cases bl
   ·
    go_enter Tryz.func184, Tryz.ntmps184
    go_wp2_with (first | (go_at_call 32; (with_reducible refine HW.out.mono ?_); rintro e w1 ⟨rfl, rfl⟩) | (go_at_call 78; (with_reducible refine (tY.out _).mono ?_); rintro e w1 ⟨rfl, rfl⟩))
    exact ⟨rfl, rfl, rfl⟩
   ·
    cases br
    ·
     rw [if_pos (show (!false && (true && !false)) = true from rfl)]
     go_enter Tryz.func184, Tryz.ntmps184
     go_wp2_with (first | (go_at_call 30; (with_reducible refine HN.out.mono ?_); rintro e w1 ⟨rfl, hp1, hk1⟩) | (go_at_call 78; (with_reducible refine (tY.out _).mono ?_); rintro e w1 ⟨rfl, rfl⟩) | (go_at_call 100; (with_reducible refine (qN.out _).mono ?_); rintro e w1 ⟨rfl, rfl⟩))
     go_ret
     exact ⟨aO s i + (aH s i).length, by rw [HU.out]; rfl, x9.out, hp1, hk1⟩
    ·
     go_enter Tryz.func184, Tryz.ntmps184
     go_wp2_with (first | (go_at_call 32; (with_reducible refine HW.out.mono ?_); rintro e w1 ⟨rfl, rfl⟩) | (go_at_call 78; (with_reducible refine (tY.out _).mono ?_); rintro e w1 ⟨rfl, rfl⟩) | (go_at_call 100; (with_reducible refine (qN.out _).mono ?_); rintro e w1 ⟨rfl, rfl⟩))
     exact ⟨rfl, rfl, rfl⟩
  ·
   go_enter Tryz.func184, Tryz.ntmps184
   go_wp2_with (go_at_call 32; (with_reducible refine HW.out.mono ?_); rintro e w1 ⟨rfl, rfl⟩)
   exact ⟨rfl, rfl, rfl⟩
end Go.Proofs.YtobanldeicclmaaGreatDoor
