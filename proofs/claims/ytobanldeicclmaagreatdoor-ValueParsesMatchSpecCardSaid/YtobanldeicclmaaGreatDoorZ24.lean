/- Lemmas for the claim: walks and plain laws. -/
import Derived.Test.YtobanldeicclmaaGreatDoorZ16
import Derived.Deep.RegionHeld3
set_option maxHeartbeats 8000000
set_option maxRecDepth 100000
namespace Go.Proofs.YtobanldeicclmaaGreatDoor
open Go.RowKit Vtx
attribute [local go_sem ↓] Go.wp_at_zero Go.wp_at_succ
theorem agz {P : Program} {md : Region.Mode} {ops : Array Oper} {Q : Exit → Act → World → Prop} {i : Nat} {o : Oper} {fuel : Nat} {listed : Array Bool} {a : Act} {w : World} (hr : Region.ready md ops listed = [i]) (ho : ops[i]? = some o)
  (h : ∀ K' : Act → World → Prop, (∀ a w, wpAny P md ops Q fuel (listed.setIfInBounds i true) a w → K' a w) → if Region.wanted o (yielded ops a.tmps) = true then Oper.wp P o a w K' Q else K' (a.put o.dst undef) w) : wpAny P md ops Q (fuel + 1) listed a w :=
 wpAny_ready hr (by simp) (AllReady.cons ho h AllReady.nil)
theorem FO (Wh : FuncId) (TL Ig : NT) (a9 b9 : Int) (TB : List (ByteArray × Int)) (nT : Nat) (hlen : TB.length = nT) (hn3 : nT ≤ 3) (hne : (TB.all fun d => decide (d.1.data.toList ≠ [])) = true) (hla : ∀ l, qK l TB = bJ a9 b9 l) (hCF : ∀ (a : Array Value) (W : World), (callFunc Wh a).run Tryz.prog W = .ok (.enter Wh a) W) (n9 : Nat) (hE : ∀ es l, bJ a9 b9 l = 0 → Pz n9 Ig es l = .ok es l) (hN : ∀ es l, bJ a9 b9 l ≠ 0 → Pz n9 Ig es l = (Pz n9 TL [] l.tail).bind fun es1 l1 => Pz n9 Ig [bQ (bJ a9 b9 l) (es ++ es1)] l1) (g : Nat) (s : ByteArray) (i : Nat) (w : World) (hn9 : n9 = s.data.toList.length) (h : aP w g s i) (hm : TM w g) (L : List Tok) (hL : wordsOf s.data.toList i = L) (t : Nat) (ht : t ≠ g) (hT : af w t 83 (ni TB).toArray) (hP : ∀ L', L'.length ≤ L.length → fK Wh TL s L') :
  Calls Tryz.prog 134 #[.pointer (some ⟨g, 0, none⟩), .slice (some ⟨t, 0, none⟩) nT nT, .func (.func Wh) #[.pointer (some ⟨g, 0, none⟩)] #[]] w fun e w' => ui w g s ((Pz s.data.toList.length TL [] L).bind fun es l1 => Pz s.data.toList.length Ig es l1) e w' := by
 have xk := qh hP
 subst hn9
 have HLEN := qh hlen
 have HNE := qh hne
 have HLA := qh hla
 have HE9 := qh hE
 have HN9 := qh hN
 clear hlen hne hla hE hN
 have hlt := h.b.lt
 have H1 := qh (fun W hp hm => hP L (Nat.le_refl _) g i W hp hm hL)
 have HM := qh hm
 obtain ⟨r, hr⟩ := ae (Pz s.data.toList.length TL [] L)
 rw [hr] at H1 ⊢
 have HR := qh hr
 have jD := qh h
 have HTB := qh hT
 have HTG := qh ht
 clear hr hP h hm hT ht
 go_enter Tryz.func134, Tryz.ntmps134
 go_wp2_with fail
 obtain ⟨W, hW, hkW, BR, -, hWs, -⟩ := dY g w
 have iZ := qh (show aP W g s i by rw [hW]; exact jD.out.alloc _)
 rw [← hW]
 clear hW
 refine (H1.out W iZ.out (HM.out.kp hkW)).mono ?_
 cases r with
 | err k =>
  rintro e w1 ⟨rfl, hk1⟩
  go_wp2_with fail
  exact ⟨rfl, rfl, hkW.trans hk1⟩
 | ok es l1 =>
  rintro e w1 ⟨x, i1, cs1, rfl, rfl, rfl, hx1, hp1, hk1⟩
  have xn := qh hx1
  obtain ⟨hn1, hs1, hl1, ha1, uS, uT, hii1⟩ := hx1
  rename_i A1 c1 A2 c2 Jr
  clear uS uT hii1 hn1 hs1 hl1 ha1
  have oq : (ai x A1 c1 A2 c2).toArray = #[.int .i64 x.k, .int .i64 x.op, .string x.nm, .int .i64 x.v.k, .int .i64 x.v.n, .string x.v.s, .slice A1 x.v.l.length c1, .slice A2 x.ar.length c2] := rfl
  rw [oq]
  clear oq
  have B1 : ZB w1 w.heap.size := by (try unfold ZB); unfold af; rw [hk1.block _ BR.lt (fun e => by injection e with e; omega)]; exact BR
  have LU := hk1.size
  have Ih := qh hp1
  clear BR hp1
  go_wp2_with fail
  obtain ⟨W1, hW1⟩ := au (w1.alloc (.cells #[.int .i64 x.k, .int .i64 x.op, .string x.nm, .int .i64 x.v.k, .int .i64 x.v.n, .string x.v.s, .slice A1 x.v.l.length c1, .slice A2 x.ar.length c2] 27 (0, 0)))
  have mW := qh (show Kp g w W1 by rw [hW1]; exact (hkW.trans hk1).alloc _)
  have HST := qh (show dG (fun b => W.heap.size ≤ b) w1 W1 by rw [hW1]; exact dG.of ((Below.refl _ _).alloc (Nat.le_refl _) _))
  have xu := qh (show aP W1 g s i1 by rw [hW1]; exact Ih.out.alloc _)
  have eG := qh (show ZB W1 w.heap.size by rw [hW1]; exact B1.alloc _)
  have adn := qh (show af W1 w1.heap.size 27 #[.int .i64 x.k, .int .i64 x.op, .string x.nm, .int .i64 x.v.k, .int .i64 x.v.n, .string x.v.s, .slice A1 x.v.l.length c1, .slice A2 x.ar.length c2] by rw [hW1]; exact af.new w1 _ _)
  have CE := qh (show dK W1 (fun b => W.heap.size ≤ b ∧ b ≠ w1.heap.size) W1.heap.size x (ai x A1 c1 A2 c2) by
   have h1 := xn.out.imp (q := fun b => W.heap.size ≤ b ∧ b ≠ w1.heap.size) (fun k hk hl => ⟨hk, by omega⟩)
   rw [hW1]
   exact (h1.keep (dG.of ((Below.refl _ _).alloc (Nat.le_refl _) _))).up (by simp))
  have hsz1 : W1.heap.size = w1.heap.size + 1 := by rw [hW1]; simp
  have ahs := qh (show af W1 t 83 (ni TB).toArray by
   have h1 := mW.out.block t HTB.out.lt (fun e => HTG.out (by injection e))
   (try unfold ZB); unfold af
   rw [h1]; exact HTB.out)
  have htlt : t < w.heap.size := HTB.out.lt
  rw [← hW1]
  clear hW1 B1
  obtain ⟨R, hR⟩ := ae (Pz s.data.toList.length Ig [x] (wordsOf s.data.toList i1))
  have HRR := qh hR.symm
  have zA : ((jO.ok [x] (wordsOf s.data.toList i1)).bind fun es l1 => Pz s.data.toList.length Ig es l1) = R := hR
  have HG := qh zA
  have GX := qh (rV HR.out)
  clear zA hR
  go_loopw [8, 10, 15] (fun _ _ _ wr => ∃ (y : Ex) (A A' : Option Addr) (c c' i2 : Nat), Hid (af wr w1.heap.size 27 #[.int .i64 y.k, .int .i64 y.op, .string y.nm, .int .i64 y.v.k, .int .i64 y.v.n, .string y.v.s, .slice A y.v.l.length c, .slice A' y.ar.length c']) ∧ Hid (dK wr (fun b => W.heap.size ≤ b ∧ b ≠ w1.heap.size) wr.heap.size y (ai y A c A' c')) ∧ Hid (aP wr g s i2) ∧ Hid (Kp g w wr) ∧ Hid (ZB wr w.heap.size) ∧ Hid (R = Pz s.data.toList.length Ig [y] (wordsOf s.data.toList i2)) ∧ Hid ((wordsOf s.data.toList i2).length ≤ L.length)) (fun _ _ _ wr => Wj wr g s)
  case atStart => exact ⟨x, A1, A2, c1, c2, i1, adn, CE, xu, mW, eG, HRR, GX⟩
  case round =>
   obtain ⟨y, A, A', c, c', i2, WI, HY, PE, qI, DL, uO, qJ⟩ := hrel
   have HTr := qh (show af wr t 83 (ni TB).toArray by
    have h1 := qI.out.block t HTB.out.lt (fun e => HTG.out (by injection e))
    (try unfold ZB); unfold af
    rw [h1]; exact HTB.out)
   have htr : t < wr.heap.size := HTr.out.lt
   have HI2 := qh (fun (W' : World) (hp : aP W' g s i2) (word : ByteArray) (hw : word.data.toList ≠ []) => (show Calls Tryz.prog 84 #[.pointer (some ⟨g, 0, none⟩), .string word] W' fun e w' => e = .returned (.bool (kU (wordsOf s.data.toList i2) word.data.toList)) ∧ W' = w' from by
    have h1 := uM g s i2 W' hp word.data.toList hw
    rwa [TA] at h1))
   obtain ⟨LW, YG⟩ := ae (wordsOf s.data.toList i2)
   have tY := qh YG
   rw [YG] at HI2
   clear YG
   go_wp2_with fail
   go_loopw [8, 10, 15] (fun op _ ix wz => ∃ k : Nat, ∃ o : Int, k ≤ nT ∧ ix = .int .i64 k ∧ op = .int .i64 o ∧ Hid (o = qK LW (TB.take k)) ∧ Below wr.heap.size wr wz) (fun _ _ ix _ => nT - (intOf ix).toNat)
   case atStart => exact ⟨0, 0, Nat.zero_le _, rfl, rfl, qh rfl, Below.refl _ _⟩
   case round =>
    obtain ⟨k, o, hk, rfl, rfl, Q5, hbr⟩ := hrel
    have tV := hbr.size
    have HPz := qh (PE.out.below hbr)
    by_cases Ut : k < nT
    ·
     have hlt' : k < TB.length := by rw [HLEN.out]; exact Ut
     obtain ⟨ad, ci, had, -, hci, hcell⟩ := (BZ (HTr.out.below hbr htr) (Nat.lt_of_lt_of_le htr tV) (by rw [HLEN.out]; unfold maxLen; omega)).at_ hlt'
     injection had with had
     subst had
     obtain ⟨d, JL⟩ := ae (TB[k])
     have hdm : d ∈ TB := by rw [← JL]; exact List.getElem_mem hlt'
     have WL := qh (show qK LW (TB.take (k + 1)) = if kU LW d.1.data.toList then d.2 else qK LW (TB.take k) by rw [List.take_succ_eq_append_getElem hlt', JL, PG])
     rw [JL] at hci
     have fO := qh Ut
     have hwne : d.1.data.toList ≠ [] := by
      have h1 := HNE.out
      have h2 := List.all_eq_true.1 h1 d hdm
      rwa [decide_eq_true_iff] at h2
     obtain ⟨dw, xH⟩ := d
     have G7 : ci = [.string dw, .int .i64 xH] := hci
     subst G7
     have Ib : wr.cell? ⟨t, k * 2, none⟩ = some (.string dw) := by have h := hcell 0 _ rfl; simpa [addr_add] using h
     have KA : wr.cell? ⟨t, k * 2 + 1, none⟩ = some (.int .i64 xH) := by have h := hcell 1 _ rfl; simpa [addr_add] using h
     have hk0 : (0 : Int) ≤ (k : Nat) := by omega
     have hk1 : ((k : Nat) : Int) < ((nT : Nat) : Int) := by omega
     have YH := qh (HI2.out (wr.alloc (.cells #[.string dw, .int .i64 xH] 83 (0, 0))) (HPz.out.alloc _) dw hwne)
     clear hci hcell JL hdm hlt' hwne
     obtain ⟨b, hb⟩ := ae (kU LW dw.data.toList)
     rw [show kU LW (dw, xH).1.data.toList = b from hb] at WL
     rw [hb] at YH
     clear hb
     cases b
     ·
      go_wp2_with (go_at_call 84; (with_reducible refine YH.out.mono ?_); rintro e w3 ⟨rfl, rfl⟩)
      go_roundw
      case rel => exact ⟨k + 1, o, fO.out, by go_num, rfl, qh (by rw [WL.out, ← Q5.out]; rfl), hbr.alloc tV _⟩
      case measure =>
       have := fO.out
       simp [intOf]
       omega
     ·
      go_wp2_with (go_at_call 84; (with_reducible refine YH.out.mono ?_); rintro e w3 ⟨rfl, rfl⟩)
      go_roundw
      case rel => exact ⟨k + 1, xH, fO.out, by go_num, rfl, qh (by rw [WL.out]; rfl), hbr.alloc tV _⟩
      case measure =>
       have := fO.out
       simp [intOf]
       omega
    ·
     have HON := qh (show o = bJ a9 b9 LW by
      have h := Q5.out
      rw [List.take_of_length_le (show TB.length ≤ k by rw [HLEN.out]; omega)] at h
      rw [h, HLA.out])
     clear Q5
     have aay := qh (WI.out.below hbr WI.out.lt)
     have iC := qh (DL.out.below hbr DL.out.lt)
     have HY2 := qh ((HY.out.keep (dG.of hbr)).up hbr.size)
     have mG := qh (qI.out.trans (Kp.of hbr))
     by_cases ho : o = 0
     ·
      subst ho
      have B2 := aay.out
      have B3 := iC.out
      obtain ⟨CJ, CO, Ea, Eb, Ec, Ed, Ee, Ef⟩ := af.c8 B2
      obtain ⟨aQ, eX, aS, eY, aT, fD, aU, fE, aY, jR, aZ, jS, bu, jT, bz, jU⟩ := af.z8 B3
      go_wp2_with fail
      refine bodyPost_ret (v := .agg #[.int .i64 y.k, .int .i64 y.op, .string y.nm, .int .i64 y.v.k, .int .i64 y.v.n, .string y.v.s, .slice A y.v.l.length c, .slice A' y.ar.length c']) (by simp [results, Tryz.results134, go_sem, aQ, aS, aT, aU, aY, aZ, bu, bz]) rfl ?_
      have hend : R = .ok [y] (wordsOf s.data.toList i2) := by rw [uO.out, HE9.out _ _ (by rw [tY.out]; exact HON.out.symm)]
      rw [HG.out, hend]
      exact rC (HY2.out.imp (fun k hk _ => hk.1)) hWs hlt HPz.out mG.out
     ·
      have Vq := qh ho
      have bo : (o == 0) = false := by simp [ho]
      have htl := oh (s := s) (i := i2) (by rw [tY.out]; exact xm (by rw [← HON.out]; exact ho))
      have HN := qh (next_any g s i2 wr HPz.out)
      obtain ⟨i3, hi3⟩ := ae (aO s i2 + (aH s i2).length)
      rw [hi3] at HN htl
      have jW := qh htl
      clear hi3 htl ho
      go_upto_region 12 with (go_at_call 30; (with_reducible refine HN.out.mono ?_); rintro e w4 ⟨rfl, wu, hk4⟩; have vU := qh wu; have iK := qh hk4; clear wu hk4)
      obtain ⟨r2, hr2⟩ := ae (Pz s.data.toList.length TL [] (wordsOf s.data.toList i3))
      have HC2 := qh (fun W' (hp : aP W' g s i3) hm => hr2 ▸ xk.out (wordsOf s.data.toList i3) (by have := jW.out.2; have := qJ.out; rw [tY.out] at *; omega) g i3 W' hp hm rfl)
      have HR2 := qh hr2
      have zF := qh (HM.out.kp (mG.out.trans iK.out))
      have HB4 := qh (aay.out.kp iK.out (by omega))
      have dL := qh (iC.out.kp iK.out (by omega))
      have YB := qh (HY2.out.N7 iK.out (fun k hk => by omega))
      have pX := qh iK.out.size
      clear hr2
      have B4 := HB4.out
      obtain ⟨CJ, CO, Ea, Eb, Ec, Ed, Ee, Ef⟩ := af.c8 B4
      cases r2 with
      | err k2 =>
       have hend : R = .err k2 := by rw [uO.out, HN9.out _ _ (by rw [tY.out, ← HON.out]; exact Vq.out), ← jW.out.1, HR2.out]; rfl
       have eH := qh hend
       clear hend
       refine wp_region_any (by kernel_rfl) ?_
       change wpAny _ _ _ _ _ _ _ (World.drew _)
       refine wpAny_take (i := 0) (v := ?v1) rfl (by kernel_rfl) (by kernel_rfl) (by kernel_rfl) (fun _ _ _ h => h) (Or.inl ⟨by rfl, ?y1⟩) ?r1
       case y1 =>
        intro w
        go_simp
        all_goals with_reducible rfl
       refine wpAny_take (i := 2) (v := ?v2) rfl (by kernel_rfl) (by kernel_rfl) (by kernel_rfl) (fun _ _ _ h => h) (Or.inl ⟨by rfl, ?y2⟩) ?r2
       case y2 =>
        intro w
        go_simp
        all_goals with_reducible rfl
       refine wpAny_ready (rs := [1, 3]) (by kernel_rfl) (by simp) ?_
       refine AllReady.cons rfl (fun K hK => ?_) ?_
       go_simp
       refine hK _ _ ?_
       clear hK K
       refine agz (i := 3) (by kernel_rfl) rfl (fun K hK => ?_)
       go_simp
       go_wp2_with fail
       refine (HC2.out _ (vU.out.below (Below.refl _ _).drew) (zF.out.below (Below.refl _ _).drew)).mono ?_
       rintro e w5 ⟨rfl, hk5⟩
       go_wp2_with fail
       refine ⟨rfl, ?_⟩
       rw [HG.out, eH.out]
       exact ⟨rfl, (mG.out.trans iK.out).trans ((Kp.of (Below.refl _ _).drew).trans hk5)⟩
       refine AllReady.cons rfl (fun K hK => ?_) AllReady.nil
       go_simp
       go_wp2_with fail
       refine (HC2.out _ (vU.out.below (Below.refl _ _).drew) (zF.out.below (Below.refl _ _).drew)).mono ?_
       rintro e w5 ⟨rfl, hk5⟩
       go_wp2_with fail
       refine ⟨rfl, ?_⟩
       rw [HG.out, eH.out]
       exact ⟨rfl, (mG.out.trans iK.out).trans ((Kp.of (Below.refl _ _).drew).trans hk5)⟩
      | ok es2 l2 =>
       refine wp_region_any (by kernel_rfl) ?_
       change wpAny _ _ _ _ _ _ _ (World.drew _)
       refine wpAny_take (i := 0) (v := ?v3) rfl (by kernel_rfl) (by kernel_rfl) (by kernel_rfl) (fun _ _ _ h => h) (Or.inl ⟨by rfl, ?y3⟩) ?r3
       case y3 =>
        intro w
        go_simp
        all_goals with_reducible rfl
       refine wpAny_take (i := 2) (v := ?v4) rfl (by kernel_rfl) (by kernel_rfl) (by kernel_rfl) (fun _ _ _ h => h) (Or.inl ⟨by rfl, ?y4⟩) ?r4
       case y4 =>
        intro w
        go_simp
        all_goals with_reducible rfl
       refine wpAny_ready (rs := [1, 3]) (by kernel_rfl) (by simp) ?_
       refine AllReady.cons rfl (fun K hK => ?_) ?_
       go_simp
       refine hK _ _ ?_
       clear hK K
       refine agz (i := 3) (by kernel_rfl) rfl (fun K hK => ?_)
       go_simp
       go_wp2_with fail
       refine (HC2.out _ (vU.out.below (Below.refl _ _).drew) (zF.out.below (Below.refl _ _).drew)).mono ?_
       rintro e w5 ⟨y2, i4, WS, rfl, rfl, rfl, hx5, xG, hk5⟩
       have tX := qh hx5
       obtain ⟨G9, hs5, hl5, Ha, sZ, tq, tu⟩ := hx5
       rename_i A3 c3 A4 c4 He
       clear sZ tq tu G9 hs5 hl5 Ha
       have mY : (ai y2 A3 c3 A4 c4).toArray = #[.int .i64 y2.k, .int .i64 y2.op, .string y2.nm, .int .i64 y2.v.k, .int .i64 y2.v.n, .string y2.v.s, .slice A3 y2.v.l.length c3, .slice A4 y2.ar.length c4] := rfl
       rw [mY]
       clear mY
       have B5 := (HB4.out.below (Below.refl _ _).drew HB4.out.lt).kp hk5 (by omega)
       obtain ⟨Fp, KC, DZ, NS, Q9, Rf, Rh, PZ⟩ := af.c8 B5
       go_wp2_with fail
       rotate_left
       refine AllReady.cons rfl (fun K hK => ?_) AllReady.nil
       go_simp
       go_wp2_with fail
       refine (HC2.out _ (vU.out.below (Below.refl _ _).drew) (zF.out.below (Below.refl _ _).drew)).mono ?_
       rintro e w5 ⟨y2, i4, WS, rfl, rfl, rfl, hx5, xG, hk5⟩
       have tX := qh hx5
       obtain ⟨G9, hs5, hl5, Ha, sZ, tq, tu⟩ := hx5
       rename_i A3 c3 A4 c4 He
       clear sZ tq tu G9 hs5 hl5 Ha
       have mY : (ai y2 A3 c3 A4 c4).toArray = #[.int .i64 y2.k, .int .i64 y2.op, .string y2.nm, .int .i64 y2.v.k, .int .i64 y2.v.n, .string y2.v.s, .slice A3 y2.v.l.length c3, .slice A4 y2.ar.length c4] := rfl
       rw [mY]
       clear mY
       have B5 := (HB4.out.below (Below.refl _ _).drew HB4.out.lt).kp hk5 (by omega)
       obtain ⟨Fp, KC, DZ, NS, Q9, Rf, Rh, PZ⟩ := af.c8 B5
       go_wp2_with fail
       refine agz (i := 1) (by kernel_rfl) rfl (fun K hK => ?_)
       go_simp
       refine hK _ _ ?_
       clear hK K
       rotate_left
       all_goals
        refine agz (i := 4) (by kernel_rfl) rfl (fun K hK => ?_)
        go_simp
        refine hK _ _ ?_
        clear hK K
        refine agz (i := 5) (by kernel_rfl) rfl (fun K hK => ?_)
        go_simp
        go_wp2_with fail
        refine (ji o _ 2 2 _).mono ?_
        rintro e w6 ⟨rfl, hb6⟩
        have B6 := (B5.alloc (.cells #[.int .i64 y.k, .int .i64 y.op, .string y.nm, .int .i64 y.v.k, .int .i64 y.v.n, .string y.v.s, .slice A y.v.l.length c, .slice A' y.ar.length c', .int .i64 y2.k, .int .i64 y2.op, .string y2.nm, .int .i64 y2.v.k, .int .i64 y2.v.n, .string y2.v.s, .slice A3 y2.v.l.length c3, .slice A4 y2.ar.length c4] 27 (0, 0))).below hb6 (B5.alloc _).lt
        obtain ⟨iW, P5, qc1, P6, qc2, P7, qc3, P8, qc4, P9, qc5, Qa, qc6, Qb, N8, Qc⟩ := af.z8 B6
        go_wp2_with fail
        refine agz (i := 6) (by kernel_rfl) rfl (fun K hK => ?_)
        go_simp
        refine hK _ _ ?_
        clear hK K
        refine wpAny_done (by kernel_rfl) ?_ _
        have hs5 := hk5.size
        have WJ : w4.heap.size ≤ w5.heap.size := by simpa using hs5
        have hs4 := pX.out
        have aht := hbr.size
        have hyl := WI.out.lt
        have aar : g < w5.heap.size := xG.b.lt
        have HPN := qh (show aP (dU w6 w1.heap.size (.int .i64 4) (.int .i64 o) (.string ⟨#[]⟩) (.int .i64 0) (.int .i64 0) (.string ⟨#[]⟩) (.slice none 0 0) (.slice (some ⟨w5.heap.size, 0, none⟩) 2 2)) g s i4 from ((xG.alloc (.cells #[.int .i64 y.k, .int .i64 y.op, .string y.nm, .int .i64 y.v.k, .int .i64 y.v.n, .string y.v.s, .slice A y.v.l.length c, .slice A' y.ar.length c', .int .i64 y2.k, .int .i64 y2.op, .string y2.nm, .int .i64 y2.v.k, .int .i64 y2.v.n, .string y2.v.s, .slice A3 y2.v.l.length c3, .slice A4 y2.ar.length c4] 27 (0, 0))).below hb6).kp (dD _ _ _ _ _ _ _ _ _ _ g (by omega)))
        have LX := qh (show Kp g w (dU w6 w1.heap.size (.int .i64 4) (.int .i64 o) (.string ⟨#[]⟩) (.int .i64 0) (.int .i64 0) (.string ⟨#[]⟩) (.slice none 0 0) (.slice (some ⟨w5.heap.size, 0, none⟩) 2 2)) from fF ((((mG.out.trans iK.out).trans ((Kp.of (Below.refl _ _).drew).trans hk5)).alloc (.cells #[.int .i64 y.k, .int .i64 y.op, .string y.nm, .int .i64 y.v.k, .int .i64 y.v.n, .string y.v.s, .slice A y.v.l.length c, .slice A' y.ar.length c', .int .i64 y2.k, .int .i64 y2.op, .string y2.nm, .int .i64 y2.v.k, .int .i64 y2.v.n, .string y2.v.s, .slice A3 y2.v.l.length c3, .slice A4 y2.ar.length c4] 27 (0, 0))).trans (Kp.of hb6)) (by omega) _ _ _ _ _ _ _ _)
        have Vr := qh (show af (dU w6 w1.heap.size (.int .i64 4) (.int .i64 o) (.string ⟨#[]⟩) (.int .i64 0) (.int .i64 0) (.string ⟨#[]⟩) (.slice none 0 0) (.slice (some ⟨w5.heap.size, 0, none⟩) 2 2)) w.heap.size 27 #[.int .i64 0, .int .i64 0, .string ⟨#[]⟩, .int .i64 0, .int .i64 0, .string ⟨#[]⟩, .slice none 0 0, .slice none 0 0] by
         have h1 := ((((dL.out.below (Below.refl _ _).drew dL.out.lt).kp hk5 (by omega)).alloc (.cells #[.int .i64 y.k, .int .i64 y.op, .string y.nm, .int .i64 y.v.k, .int .i64 y.v.n, .string y.v.s, .slice A y.v.l.length c, .slice A' y.ar.length c', .int .i64 y2.k, .int .i64 y2.op, .string y2.nm, .int .i64 y2.v.k, .int .i64 y2.v.n, .string y2.v.s, .slice A3 y2.v.l.length c3, .slice A4 y2.ar.length c4] 27 (0, 0))).below hb6 (by have := hb6.size; simp at *; omega))
         (try unfold ZB); unfold af
         rw [dD _ _ _ _ _ _ _ _ _ _ _ (by omega)]
         exact h1)
        have HYN := qh (vM (b := w1.heap.size) (LD o (((YB.out.keep (dG.of (Below.refl _ _).drew)).up (by simp)).N7 hk5 (fun k hk => by omega)) (tX.out.imp (fun k hk _ => by simp at hk; exact ⟨by omega, by omega⟩)) hb6 (fun k hk => ⟨by omega, by omega⟩)) (fun k hk => hk.2) (.int .i64 4) (.int .i64 o) (.string ⟨#[]⟩) (.int .i64 0) (.int .i64 0) (.string ⟨#[]⟩) (.slice none 0 0) (.slice (some ⟨w5.heap.size, 0, none⟩) 2 2))
        have hRN : R = Pz s.data.toList.length Ig [bQ o [y, y2]] (wordsOf s.data.toList i4) := by
         rw [uO.out, HN9.out _ _ (by rw [tY.out, ← HON.out]; exact Vq.out), tY.out, ← HON.out, ← tY.out, ← jW.out.1, HR2.out]
         rfl
        have HRN := qh hRN
        have FD := qh (show (wordsOf s.data.toList i4).length < (wordsOf s.data.toList i2).length by
         have h1 := rV HR2.out
         have h2 := jW.out.2
         omega)
        clear hRN
        try go_wp2_with fail
        go_roundw
        case rel => exact ⟨bQ o [y, y2], none, some ⟨w5.heap.size, 0, none⟩, 0, 2, i4, qh (iy B6 _ _ _ _ _ _ _ _), HYN, HPN, LX, Vr, HRN, qh (by have h1 := FD.out; have h2 := qJ.out; omega)⟩
        case measure =>
         have h1 : Wj (dU w6 w1.heap.size (.int .i64 4) (.int .i64 o) (.string ⟨#[]⟩) (.int .i64 0) (.int .i64 0) (.string ⟨#[]⟩) (.slice none 0 0) (.slice (some ⟨w5.heap.size, 0, none⟩) 2 2)) g s < (wordsOf s.data.toList i2).length := by rw [TY HPN.out]; exact FD.out
         have h3 := TY PE.out
         rw [← h3] at h1
         exact h1
theorem MH (g : Nat) (s : ByteArray) (i : Nat) (w : World) (h : aP w g s i) (hm : TM w g) (L : List Tok) (hL : wordsOf s.data.toList i = L) (t : Nat) (ht : t ≠ g) (hT : af w t 83 (ni wB).toArray) (hP : ∀ L', L'.length ≤ L.length → fK 135 .product s L') :
  Calls Tryz.prog 134 #[.pointer (some ⟨g, 0, none⟩), .slice (some ⟨t, 0, none⟩) 2 2, .func (.func 135) #[.pointer (some ⟨g, 0, none⟩)] #[]] w fun e w' => ui w g s ((Pz s.data.toList.length .product [] L).bind fun es l1 => Pz s.data.toList.length .uf es l1) e w' :=
 FO 135 .product .uf 15 16 wB 2 rfl (by decide) (by decide) PH (fun a W => by simp [callFunc, go_sem, Tryz.func135, Tryz.f135]) s.data.toList.length (fun es l h => by
  rw [bW]
  dsimp only [dB]
  rw [if_pos h]) (fun es l h => by
  rw [bW]
  dsimp only [dB]
  rw [if_neg h]) g s i w rfl h hm L hL t ht hT hP
theorem JM (g : Nat) (s : ByteArray) (i : Nat) (w : World) (h : aP w g s i) (hm : TM w g) (L : List Tok) (hL : wordsOf s.data.toList i = L) (t : Nat) (ht : t ≠ g) (hT : af w t 83 (ni wC).toArray) (hP : ∀ L', L'.length ≤ L.length → fK 151 .minus s L') :
  Calls Tryz.prog 134 #[.pointer (some ⟨g, 0, none⟩), .slice (some ⟨t, 0, none⟩) 3 3, .func (.func 151) #[.pointer (some ⟨g, 0, none⟩)] #[]] w fun e w' => ui w g s ((Pz s.data.toList.length .minus [] L).bind fun es l1 => Pz s.data.toList.length .fH es l1) e w' :=
 FO 151 .minus .fH 17 19 wC 3 rfl (by decide) (by decide) PI (fun a W => by simp [callFunc, go_sem, Tryz.func151, Tryz.f151]) s.data.toList.length (fun es l h => by
  rw [bW]
  dsimp only [dB]
  rw [if_pos h]) (fun es l h => by
  rw [bW]
  dsimp only [dB]
  rw [if_neg h]) g s i w rfl h hm L hL t ht hT hP
theorem Uu (s : ByteArray) (L : List Tok) (h : ∀ L', L'.length ≤ L.length → fK 135 .product s L') : fK 112 .sum s L := by
 intro g i w hp hm hL
 have HC := qh (fun W t (Wp : aP W g s i) (hmW : TM W g) (ht : t ≠ g) hT => MH g s i W Wp hmW L hL t ht hT h)
 rw [show ((Pz s.data.toList.length .product [] L).bind fun es l1 => Pz s.data.toList.length .uf es l1) = Pz s.data.toList.length .sum [] L from by rw [bW _ .sum]; rfl] at HC
 have jD := qh hp
 have HM := qh hm
 have hlt := hp.b.lt
 obtain ⟨r, hr⟩ := ae (Pz s.data.toList.length .sum [] L)
 rw [hr] at HC ⊢
 clear hp hm hr
 go_enter Tryz.func112, Tryz.ntmps112
 go_upto_region 1 with (fail)
 obtain ⟨W, hW, hkW, BR, -, hWs, -⟩ := dY g w
 have iZ := qh (show aP W g s i by rw [hW]; exact jD.out.alloc _)
 rw [← hW]
 clear hW
 go_wp2_with fail
 refine (PL W).mono ?_
 rintro e Wt ⟨rfl, hbt, hbw⟩
 have HBT := qh hbt
 have NH := qh (iZ.out.below hbw)
 have KF := qh (hkW.trans (Kp.of hbw))
 have BRT := BR.below hbw BR.lt
 have adr := hbw.size
 have hgW : g < W.heap.size := iZ.out.b.lt
 clear hbt hbw
 go_wp2_with fail
 refine (HC.out Wt W.heap.size NH.out (HM.out.kp KF.out) (by omega) HBT.out).mono ?_
 cases r with
 | err k =>
  rintro e w1 ⟨rfl, hk1⟩
  go_wp2_with fail
  exact ⟨rfl, rfl, KF.out.trans hk1⟩
 | ok es l1 =>
  rintro e w1 ⟨x, i1, cs1, rfl, rfl, rfl, hx1, hp1, hk1⟩
  have xn := qh hx1
  obtain ⟨hn1, hs1, hl1, ha1, uS, uT, hii1⟩ := hx1
  rename_i A1 c1 A2 c2 Jr
  clear uS uT hii1 hn1 hs1 hl1 ha1
  have oq : (ai x A1 c1 A2 c2).toArray = #[.int .i64 x.k, .int .i64 x.op, .string x.nm, .int .i64 x.v.k, .int .i64 x.v.n, .string x.v.s, .slice A1 x.v.l.length c1, .slice A2 x.ar.length c2] := rfl
  rw [oq]
  clear oq
  have B1 : ZB w1 w.heap.size := BRT.kp hk1 (by omega)
  obtain ⟨aQ, eX, aS, eY, aT, fD, aU, fE, aY, jR, aZ, jS, bu, jT, bz, jU⟩ := af.z8 B1
  go_wp2_with fail
  refine bodyPost_ret (v := .agg #[.int .i64 x.k, .int .i64 x.op, .string x.nm, .int .i64 x.v.k, .int .i64 x.v.n, .string x.v.s, .slice A1 x.v.l.length c1, .slice A2 x.ar.length c2]) (by simp [results, Tryz.results112, go_sem, aQ, aS, aT, aU, aY, aZ, bu, bz]) rfl ?_
  exact rC (L := Wt.heap.size) xn.out (by omega) hlt hp1 (KF.out.trans hk1)
theorem Hf (s : ByteArray) (L : List Tok) (h : ∀ L', L'.length ≤ L.length → fK 151 .minus s L') : fK 135 .product s L := by
 intro g i w hp hm hL
 have HC := qh (fun W t (Wp : aP W g s i) (hmW : TM W g) (ht : t ≠ g) hT => JM g s i W Wp hmW L hL t ht hT h)
 rw [show ((Pz s.data.toList.length .minus [] L).bind fun es l1 => Pz s.data.toList.length .fH es l1) = Pz s.data.toList.length .product [] L from by rw [bW _ .product]; rfl] at HC
 have jD := qh hp
 have HM := qh hm
 have hlt := hp.b.lt
 obtain ⟨r, hr⟩ := ae (Pz s.data.toList.length .product [] L)
 rw [hr] at HC ⊢
 clear hp hm hr
 go_enter Tryz.func135, Tryz.ntmps135
 go_upto_region 1 with (fail)
 obtain ⟨W, hW, hkW, BR, -, hWs, -⟩ := dY g w
 have iZ := qh (show aP W g s i by rw [hW]; exact jD.out.alloc _)
 rw [← hW]
 clear hW
 go_wp2_with fail
 refine (PM W).mono ?_
 rintro e Wt ⟨rfl, hbt, hbw⟩
 have HBT := qh hbt
 have NH := qh (iZ.out.below hbw)
 have KF := qh (hkW.trans (Kp.of hbw))
 have BRT := BR.below hbw BR.lt
 have adr := hbw.size
 have hgW : g < W.heap.size := iZ.out.b.lt
 clear hbt hbw
 go_wp2_with fail
 refine (HC.out Wt W.heap.size NH.out (HM.out.kp KF.out) (by omega) HBT.out).mono ?_
 cases r with
 | err k =>
  rintro e w1 ⟨rfl, hk1⟩
  go_wp2_with fail
  exact ⟨rfl, rfl, KF.out.trans hk1⟩
 | ok es l1 =>
  rintro e w1 ⟨x, i1, cs1, rfl, rfl, rfl, hx1, hp1, hk1⟩
  have xn := qh hx1
  obtain ⟨hn1, hs1, hl1, ha1, uS, uT, hii1⟩ := hx1
  rename_i A1 c1 A2 c2 Jr
  clear uS uT hii1 hn1 hs1 hl1 ha1
  have oq : (ai x A1 c1 A2 c2).toArray = #[.int .i64 x.k, .int .i64 x.op, .string x.nm, .int .i64 x.v.k, .int .i64 x.v.n, .string x.v.s, .slice A1 x.v.l.length c1, .slice A2 x.ar.length c2] := rfl
  rw [oq]
  clear oq
  have B1 : ZB w1 w.heap.size := BRT.kp hk1 (by omega)
  obtain ⟨aQ, eX, aS, eY, aT, fD, aU, fE, aY, jR, aZ, jS, bu, jT, bz, jU⟩ := af.z8 B1
  go_wp2_with fail
  refine bodyPost_ret (v := .agg #[.int .i64 x.k, .int .i64 x.op, .string x.nm, .int .i64 x.v.k, .int .i64 x.v.n, .string x.v.s, .slice A1 x.v.l.length c1, .slice A2 x.ar.length c2]) (by simp [results, Tryz.results135, go_sem, aQ, aS, aT, aU, aY, aZ, bu, bz]) rfl ?_
  exact rC (L := Wt.heap.size) xn.out (by omega) hlt hp1 (KF.out.trans hk1)
end Go.Proofs.YtobanldeicclmaaGreatDoor
