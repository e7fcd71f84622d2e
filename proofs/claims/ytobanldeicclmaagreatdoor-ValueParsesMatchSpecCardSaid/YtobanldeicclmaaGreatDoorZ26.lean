/- Lemmas for the claim: walks and plain laws. -/
import Derived.Test.YtobanldeicclmaaGreatDoorZ25
import Derived.Test.YtobanldeicclmaaGreatDoorZ23
set_option maxHeartbeats 8000000
set_option maxRecDepth 100000
namespace Go.Proofs.YtobanldeicclmaaGreatDoor
open Go.RowKit Vtx
attribute [local go_sem ↓] Go.wp_at_zero Go.wp_at_succ
theorem lD {w : World} {q : Nat → Prop} {x : Val} {A : Option Addr} {c : Nat} (hr : Reads w w.heap.size 1 A x.l.length (dS .i64 x.l)) (hA : ∀ ad, A = some ad → q ad.block) (hl : x.l.length ≤ maxLen) (hs : x.s.size ≤ maxLen) : dK w q w.heap.size (dX x) (ai (dX x) A c none 0) :=
 dK.mk (e := dX x) (cs := []) (show 0 ≤ maxLen from Nat.zero_le _) hs hl (show 0 ≤ maxLen from Nat.zero_le _) ⟨hr, fun _ => hA⟩ ⟨Reads.none_, fun _ ad e => by cases e⟩ (fun i hi => absurd hi (by simp [dX, Ex.ar]))
theorem MI (s : ByteArray) (L : List Tok) (hN : ∀ L', L'.length < L.length → fK 151 .minus s L') (hS : fK 159 .az s L) : fK 151 .minus s L := by
 intro g i w hp hm hL
 have jD := qh hp
 have HM := qh hm
 have hlt := hp.b.lt
 have um := qh (bW s.data.toList.length .minus [] L)
 obtain ⟨R, hR⟩ := ae (Pz s.data.toList.length .minus [] L)
 rw [hR] at um ⊢
 dsimp only [dB] at um
 obtain ⟨b, hb⟩ := ae (kU L [45])
 have HI := qh (fun (W' : World) (hp : aP W' g s i) => uM g s i W' hp [45] (by decide))
 rw [hL, hb, show tb [45] = ⟨#[45]⟩ from rfl] at HI
 have lu := qh hb
 clear hR hb
 cases b
 ·
  have um := qh (um.out.trans (if_neg (by rw [lu.out]; decide)))
  have HC := qh (fun W' (hp : aP W' g s i) hm => hS g i W' hp hm hL)
  rw [← um.out] at HC
  clear hp hm hN hS
  go_enter Tryz.func151, Tryz.ntmps151
  go_upto_region 1 with (fail)
  obtain ⟨W, hW, hkW, BR, hszW, hWs, -⟩ := dY g w
  have iZ := qh (show aP W g s i by rw [hW]; exact jD.out.alloc _)
  have oZ := qh (HM.out.kp hkW)
  have fV := qh BR
  rw [← hW]
  clear hW BR
  go_wp2_with (go_at_call 84; (with_reducible refine (HI.out _ iZ.out).mono ?_); rintro e w2 ⟨rfl, rfl⟩)
  refine (HC.out W iZ.out oZ.out).mono ?_
  cases R with
  | err k =>
   rintro e w1 ⟨rfl, hk1⟩
   go_wp2_with fail
   exact ⟨rfl, rfl, hkW.trans hk1⟩
  | ok es l1 =>
   rintro e w1 ⟨y, i1, cs1, rfl, rfl, rfl, hx1, hp1, hk1⟩
   have xn := qh hx1
   obtain ⟨hn1, hs1, hl1, ha1, uS, uT, hii1⟩ := hx1
   rename_i A1 c1 A2 c2 Jr
   clear uS uT hii1 hn1 hs1 hl1 ha1
   have oq : (ai y A1 c1 A2 c2).toArray = #[.int .i64 y.k, .int .i64 y.op, .string y.nm, .int .i64 y.v.k, .int .i64 y.v.n, .string y.v.s, .slice A1 y.v.l.length c1, .slice A2 y.ar.length c2] := rfl
   rw [oq]
   clear oq
   have B1 := fV.out.kp hk1 (by omega)
   obtain ⟨aQ, eX, aS, eY, aT, fD, aU, fE, aY, jR, aZ, jS, bu, jT, bz, jU⟩ := af.z8 B1
   go_wp2_with fail
   refine bodyPost_ret (v := .agg #[.int .i64 y.k, .int .i64 y.op, .string y.nm, .int .i64 y.v.k, .int .i64 y.v.n, .string y.v.s, .slice A1 y.v.l.length c1, .slice A2 y.ar.length c2]) (by simp [results, Tryz.results151, go_sem, aQ, aS, aT, aU, aY, aZ, bu, bz]) rfl ?_
   exact rC xn.out hWs hlt hp1 (hkW.trans hk1)
 ·
  have um := qh (um.out.trans (if_pos lu.out))
  have htl := oh (s := s) (i := i) (by rw [hL]; intro e; have h := lu.out; rw [e] at h; cases h)
  have HN := qh (fun W (hp : aP W g s i) => next_any g s i W hp)
  obtain ⟨t, ht⟩ : ∃ t, bV s.data.toList i = some t := by
   cases ht : bV s.data.toList i with
   | none => have h := lu.out; rw [← hL, nY ht] at h; cases h
   | some t => exact ⟨t, rfl⟩
  obtain ⟨ea, et, eh⟩ := jX ht
  have hLt : L = t :: wordsOf s.data.toList (t.at_ + t.tx.length) := by rw [← hL, eQ, ht]
  have htx : t.tx = [45] := by have h := lu.out; rw [hLt] at h; simp [kU] at h; exact h.2
  have hti := dW ht
  rw [ak] at hti
  have hnum := VQ ht (by rw [htx]; rfl)
  rw [← hLt, ak] at hnum
  obtain ⟨P0, hP0⟩ := ae (t.at_)
  obtain ⟨i2, hi2⟩ := ae (aO s i + (aH s i).length)
  have adv : i2 = P0 + 1 := by rw [← hi2, ea, et, htx, hP0]; rfl
  rw [hi2] at HN htl
  rw [hP0] at hnum
  have jW := qh htl
  have YI := qh hL
  have ahz : P0 < s.size := by rw [← hP0]; exact hti.2.1
  have ahA := hp.s
  have HCB := qh (show af w g 65 #[.string s, .int .i64 (P0 : Nat), .string ⟨#[45]⟩, .bool t.touch] from by
   have h := hp.b
   rw [ea, et, eh, hP0, htx] at h
   exact h)
  have hE1 : IntKind.i64.wrap (((P0 : Nat) : Int) + 1) = ((P0 + 1 : Nat) : Int) := by rw [show ((P0 : Nat) : Int) + 1 = ((P0 + 1 : Nat) : Int) by omega]; exact IntWalk.i64_in _ (by omega)
  have HUN := qh (fun L' (h : L'.length < L.length) => hN L' h)
  have lh := qh (And.intro hLt (And.intro htx hP0))
  clear ea et eh hti hi2 htl ht hLt htx hP0 hN hS
  by_cases hl1 : P0 + 1 < s.size
  ·
   obtain ⟨bd, hbd⟩ := ae (bI (s[P0 + 1]'hl1))
   have xx := qh (fun w' => (show Calls Tryz.prog 80 #[.int .u8 ((s[P0 + 1]'hl1).toNat : Nat)] w' fun e w'' => e = .returned (.bool bd) ∧ w' = w'' from (jC (s[P0 + 1]'hl1) w').mono fun e w'' ⟨he, hw⟩ => ⟨he.trans (congrArg (fun x => Ending.returned (.bool x)) hbd), hw⟩))
   rw [decide_eq_true hl1, Bool.true_and, jo hl1, hbd] at hnum
   have adx : ((P0 + 1 : Nat) : Int) < ((s.size : Nat) : Int) := by omega
   have ady : ((P0 : Nat) : Int) + 1 < ((s.size : Nat) : Int) := by omega
   clear hbd hp hm
   cases bd
   ·
    have um := qh (um.out.trans (if_neg (by rw [hnum]; decide)))
    clear hnum
    obtain ⟨r2, hr2⟩ := ae (Pz s.data.toList.length .minus [] (wordsOf s.data.toList i2))
    have HC2 := qh (fun W' (hp : aP W' g s i2) hm => hr2 ▸ HUN.out (wordsOf s.data.toList i2) (by have := jW.out.2; rw [hL] at this; omega) g i2 W' hp hm rfl)
    have HR2 := qh hr2
    clear hr2
    go_enter Tryz.func151, Tryz.ntmps151
    go_upto_region 1 with (fail)
    obtain ⟨W, hW, hkW, BR, hszW, hWs, -⟩ := dY g w
    have iZ := qh (show aP W g s i by rw [hW]; exact jD.out.alloc _)
    have oZ := qh (HM.out.kp hkW)
    have fV := qh BR
    have HCW := qh (show af W g 65 #[.string s, .int .i64 (P0 : Nat), .string ⟨#[45]⟩, .bool t.touch] by rw [hW]; exact HCB.out.alloc _)
    rw [← hW]
    clear hW BR
    have c0 : W.cell? ⟨g, 0, none⟩ = some (.string s) := iZ.out.b.cell 0
    have c1 : W.cell? ⟨g, 1, none⟩ = some (.int .i64 (P0 : Nat)) := HCW.out.cell 1
    go_wp2_with (first | (go_at_call 84; (with_reducible refine (HI.out _ iZ.out).mono ?_); rintro e w3 ⟨rfl, rfl⟩) | (go_at_call 80; (with_reducible refine (xx.out _).mono ?_); rintro e w3 ⟨rfl, rfl⟩) | (go_at_call 30; (with_reducible refine (HN.out _ iZ.out).mono ?_); rintro e w2 ⟨rfl, hp2, hk2⟩; have HP2 := qh hp2; have HW2 := qh hk2; have mG := qh (hkW.trans hk2); have iC := qh (fV.out.kp hk2 (by omega)); clear hp2 hk2))
    refine (HC2.out w2 HP2.out (HM.out.kp mG.out)).mono ?_
    have zH : W.heap.size ≤ w2.heap.size := HW2.out.size
    cases r2 with
    | err k2 =>
     rintro e w5 ⟨rfl, hk5⟩
     have hend : R = .err k2 := by rw [um.out, ← YI.out, ← jW.out.1]; rw [HR2.out]; rfl
     go_wp2_with fail
     refine ⟨rfl, ?_⟩
     rw [hend]
     exact ⟨rfl, mG.out.trans hk5⟩
    | ok es2 l2 =>
     rintro e w5 ⟨y, i4, WS, rfl, rfl, rfl, hx5, xG, hk5⟩
     have tX := qh hx5
     obtain ⟨G9, hs5, hl5, Ha, sZ, tq, tu⟩ := hx5
     rename_i A1 c1 A2 c2 He
     clear sZ tq tu G9 hs5 hl5 Ha
     have mY : (ai y A1 c1 A2 c2).toArray = #[.int .i64 y.k, .int .i64 y.op, .string y.nm, .int .i64 y.v.k, .int .i64 y.v.n, .string y.v.s, .slice A1 y.v.l.length c1, .slice A2 y.ar.length c2] := rfl
     rw [mY]
     clear mY
     have hend : R = .ok [bQ 20 [y]] (wordsOf s.data.toList i4) := by rw [um.out, ← YI.out, ← jW.out.1]; rw [HR2.out]; rfl
     have sK := qh (iC.out.kp hk5 (by omega))
     have hs5 := hk5.size
     go_wp2_with fail
     refine (ji 20 _ 1 1 _).mono ?_
     rintro e w6 ⟨rfl, hb6⟩
     have B6 := (sK.out.alloc (.cells #[.int .i64 y.k, .int .i64 y.op, .string y.nm, .int .i64 y.v.k, .int .i64 y.v.n, .string y.v.s, .slice A1 y.v.l.length c1, .slice A2 y.ar.length c2] 27 (0, 0))).below hb6 (sK.out.alloc _).lt
     obtain ⟨aQ, eX, aS, eY, aT, fD, aU, fE, aY, jR, aZ, jS, bu, jT, bz, jU⟩ := af.z8 B6
     go_wp2_with fail
     refine bodyPost_ret (v := .agg #[.int .i64 4, .int .i64 20, .string ⟨#[]⟩, .int .i64 0, .int .i64 0, .string ⟨#[]⟩, .slice none 0 0, .slice (some ⟨w5.heap.size, 0, none⟩) 1 1]) (by simp [results, Tryz.results151, go_sem, aQ, aS, aT, aU, aY, aZ, bu, bz]) rfl ?_
     rw [hend]
     exact rC (L := W.heap.size) (GK 20 (tX.out.imp (fun k hk _ => by omega)) hb6 (fun k hk => by omega)) hWs hlt ((xG.alloc _).below hb6) (((mG.out.trans hk5).alloc _).trans (Kp.of hb6))
   ·
    have um := qh (um.out.trans (if_pos hnum))
    have Ll := qh hnum
    clear hnum
    obtain ⟨u, tl, htu, hut⟩ : ∃ u tl, wordsOf s.data.toList (t.at_ + t.tx.length) = u :: tl ∧ True := by
     cases h : wordsOf s.data.toList (t.at_ + t.tx.length) with
     | nil => have h1 := Ll.out; rw [lh.out.1, h] at h1; cases h1
     | cons u tl => exact ⟨u, tl, rfl, trivial⟩
    have YJ : t.at_ + t.tx.length = i2 := by rw [adv, lh.out.2.1, lh.out.2.2]; rfl
    have hwt := dJ htu
    rw [YJ] at hwt htu
    obtain ⟨Vp, WX, -⟩ := jX hwt.1
    have HTU := qh (show wordsOf s.data.toList (t.at_ + t.tx.length) = u :: wordsOf s.data.toList (aO s i2 + (aH s i2).length) by rw [YJ, htu, Vp, WX, ← hwt.2])
    have wV := dW hwt.1
    rw [ak] at wV
    have HET := qh WX
    have hus : u.tx.length ≤ 4000 := by omega
    have aaA : ((⟨#[45]⟩ : ByteArray) ++ tb u.tx) = tb (45 :: u.tx) := by
     refine ByteArray.ext ?_
     rw [ByteArray.data_append]
     simp [tb]
    have adz := qh aaA
    obtain ⟨v, hv⟩ := ae (tb u.tx)
    have XK := qh hv
    have hvs : v.size ≤ 4000 := by rw [← hv, dm]; exact hus
    clear hut YJ hwt Vp WX htu wV aaA
    go_enter Tryz.func151, Tryz.ntmps151
    go_upto_region 1 with (fail)
    obtain ⟨W, hW, hkW, BR, hszW, hWs, -⟩ := dY g w
    have iZ := qh (show aP W g s i by rw [hW]; exact jD.out.alloc _)
    have oZ := qh (HM.out.kp hkW)
    have fV := qh BR
    have HCW := qh (show af W g 65 #[.string s, .int .i64 (P0 : Nat), .string ⟨#[45]⟩, .bool t.touch] by rw [hW]; exact HCB.out.alloc _)
    rw [← hW]
    clear hW BR
    have c0 : W.cell? ⟨g, 0, none⟩ = some (.string s) := iZ.out.b.cell 0
    have c1 : W.cell? ⟨g, 1, none⟩ = some (.int .i64 (P0 : Nat)) := HCW.out.cell 1
    go_wp2_with (first | (go_at_call 84; (with_reducible refine (HI.out _ iZ.out).mono ?_); rintro e w3 ⟨rfl, rfl⟩) | (go_at_call 80; (with_reducible refine (xx.out _).mono ?_); rintro e w3 ⟨rfl, rfl⟩) | (go_at_call 30; (with_reducible refine (HN.out _ iZ.out).mono ?_); rintro e w2 ⟨rfl, hp2, hk2⟩; have HP2 := qh hp2; have HW2 := qh hk2; have mG := qh (hkW.trans hk2); have iC := qh (fV.out.kp hk2 (by omega)); have d2 : w2.cell? ⟨g, 2, none⟩ = some (.string v) := by { have h := hp2.b.cell 2; rw [HET.out, XK.out] at h; exact h }; clear hp2 hk2))
    have hdat : ((⟨#[45]⟩ : ByteArray) ++ v) = tb (45 :: u.tx) := by rw [← XK.out]; exact adz.out
    have XV := qh (HM.out.kp mG.out).tab
    rw [show (⟨#[45]⟩ : ByteArray) ++ v = tb (45 :: u.tx) from hdat]
    refine (BH (tb (45 :: u.tx)) w2 (by rw [dm]; simp; omega) XV.out.1 XV.out.2).mono ?_
    rw [bT]
    clear hdat
    rintro e w3 ⟨XW, hb3⟩
    obtain ⟨x, A, c, f, rfl, hrd, hA, hxl, hxs, q1, q2⟩ := XW.ex
    have JQ : x.l.length ≤ maxLen := by unfold maxLen; omega
    have JR : x.s.size ≤ maxLen := by unfold maxLen; omega
    have oI := qh (And.intro hrd hA)
    have HQ := qh (And.intro q1 q2)
    have hsz3 := hb3.size
    have Eo := qh (HP2.out.below hb3)
    have JS := qh (iC.out.below hb3 iC.out.lt)
    have FP := qh (mG.out.trans (Kp.of hb3))
    have zH : W.heap.size ≤ w2.heap.size := HW2.out.size
    clear XW hrd hA q1 q2 hxl hxs hb3
    by_cases hf : f = 0
    ·
     have HV := qh (HQ.out.1 hf)
     have hrf := vP HV.out.1 HV.out.2
     have wG := qh hrf
     subst hf
     clear hrf
     go_upto_region 7 with (fail)
     obtain ⟨W3, hW3⟩ := au (w3.alloc (.cells #[.int .i64 x.k, .int .i64 x.n, .string x.s, .slice A x.l.length c] 24 (0, 0)))
     have Ik := qh (show aP W3 g s i2 by rw [hW3]; exact Eo.out.alloc _)
     have qO := qh (show ZB W3 w.heap.size by rw [hW3]; exact JS.out.alloc _)
     have HBV := qh (show af W3 w3.heap.size 24 #[.int .i64 x.k, .int .i64 x.n, .string x.s, .slice A x.l.length c] by rw [hW3]; exact af.new w3 _ _)
     have qg := qh (show Kp g w W3 by rw [hW3]; exact FP.out.alloc _)
     have CZ : W3.heap.size = w3.heap.size + 1 := by rw [hW3]; simp
     have XX := qh (show Reads W3 W3.heap.size 1 A x.l.length (dS .i64 x.l) by
      have h1 : Below w3.heap.size w3 W3 := by rw [hW3]; exact (Below.refl _ _).alloc (Nat.le_refl _) _
      exact (oI.out.1.below h1).more h1.size)
     rw [← hW3]
     clear hW3
     have aaC : g < w3.heap.size := Eo.out.b.lt
     go_wp2_with (go_at_call 30; (with_reducible refine (next_any g s i2 _ Ik.out).mono ?_); rintro e w4 ⟨rfl, wu, hk4⟩; have vU := qh wu; have iK := qh hk4; have Oi := HBV.out.kp hk4 (by omega); have FC := qO.out.kp hk4 (by omega); have rf : w4.cell? ⟨w3.heap.size, 0, none⟩ = some (.int .i64 x.k) := Oi.cell 0; have ug : w4.cell? ⟨w3.heap.size, 1, none⟩ = some (.int .i64 x.n) := Oi.cell 1; have uh : w4.cell? ⟨w3.heap.size, 2, none⟩ = some (.string x.s) := Oi.cell 2; have sH : w4.cell? ⟨w3.heap.size, 3, none⟩ = some (.slice A x.l.length c) := Oi.cell 3; clear wu hk4)
     refine (sQ x.k x.n x.s A x.l.length c w4).mono ?_
     rintro e w5 ⟨rfl, hb5⟩
     have B5 := FC.below hb5 FC.lt
     have PY := qh (lD (q := fun b => w3.heap.size ≤ b + w3.heap.size ∧ b ≠ g) (c := c) XX.out (fun ad e => ⟨by omega, by have := oI.out.2 ad e; omega⟩) JQ JR)
     have tX := qh (lD (q := fun b => W.heap.size ≤ b) (c := c) XX.out (fun ad e => by have := oI.out.2 ad e; omega) JQ JR)
     have Qo := qh (((tX.out.N7 iK.out (fun k hk => by omega)).keep (dG.of hb5)).up hb5.size)
     obtain ⟨aQ, eX, aS, eY, aT, fD, aU, fE, aY, jR, aZ, jS, bu, jT, bz, jU⟩ := af.z8 B5
     go_wp2_with fail
     refine bodyPost_ret (v := .agg #[.int .i64 1, .int .i64 0, .string ⟨#[]⟩, .int .i64 x.k, .int .i64 x.n, .string x.s, .slice A x.l.length c, .slice none 0 0]) (by simp [results, Tryz.results151, go_sem, aQ, aS, aT, aU, aY, aZ, bu, bz]) rfl ?_
     have hend : R = .ok [dX x] (wordsOf s.data.toList (aO s i2 + (aH s i2).length)) := by rw [um.out, lh.out.1]; rw [HTU.out]; dsimp only; rw [wG.out]
     rw [hend]
     exact rC (L := W.heap.size) (x := dX x) (A' := none) (c' := 0) Qo.out hWs hlt (vU.out.below hb5) ((qg.out.trans iK.out).trans (Kp.of hb5))
    ·
     have hbf : (f == 0) = false := by simp [hf]
     have rD := qh (lJ (HQ.out.2 hf).2.2)
     have HQF := qh (HQ.out.2 hf).1
     clear hf
     have hend : R = .err P0 := by rw [um.out, lh.out.1]; rw [HTU.out]; dsimp only; rw [rD.out, lh.out.2.2]
     go_wp2_with fail
     refine ⟨rfl, ?_⟩
     rw [hend]
     exact ⟨rfl, FP.out.alloc _⟩
  ·
   have hnum : qw L = false := by rw [hnum, decide_eq_false hl1]; rfl
   have um := qh (um.out.trans (if_neg (by rw [hnum]; decide)))
   have adx : ¬ ((P0 + 1 : Nat) : Int) < ((s.size : Nat) : Int) := by omega
   have ady : ¬ ((P0 : Nat) : Int) + 1 < ((s.size : Nat) : Int) := by omega
   clear hnum hp hm
   obtain ⟨r2, hr2⟩ := ae (Pz s.data.toList.length .minus [] (wordsOf s.data.toList i2))
   have HC2 := qh (fun W' (hp : aP W' g s i2) hm => hr2 ▸ HUN.out (wordsOf s.data.toList i2) (by have := jW.out.2; rw [hL] at this; omega) g i2 W' hp hm rfl)
   have HR2 := qh hr2
   clear hr2
   go_enter Tryz.func151, Tryz.ntmps151
   go_upto_region 1 with (fail)
   obtain ⟨W, hW, hkW, BR, hszW, hWs, -⟩ := dY g w
   have iZ := qh (show aP W g s i by rw [hW]; exact jD.out.alloc _)
   have oZ := qh (HM.out.kp hkW)
   have fV := qh BR
   have HCW := qh (show af W g 65 #[.string s, .int .i64 (P0 : Nat), .string ⟨#[45]⟩, .bool t.touch] by rw [hW]; exact HCB.out.alloc _)
   rw [← hW]
   clear hW BR
   have c0 : W.cell? ⟨g, 0, none⟩ = some (.string s) := iZ.out.b.cell 0
   have c1 : W.cell? ⟨g, 1, none⟩ = some (.int .i64 (P0 : Nat)) := HCW.out.cell 1
   go_wp2_with (first | (go_at_call 84; (with_reducible refine (HI.out _ iZ.out).mono ?_); rintro e w3 ⟨rfl, rfl⟩) | (go_at_call 30; (with_reducible refine (HN.out _ iZ.out).mono ?_); rintro e w2 ⟨rfl, hp2, hk2⟩; have HP2 := qh hp2; have HW2 := qh hk2; have mG := qh (hkW.trans hk2); have iC := qh (fV.out.kp hk2 (by omega)); clear hp2 hk2))
   refine (HC2.out w2 HP2.out (HM.out.kp mG.out)).mono ?_
   have zH : W.heap.size ≤ w2.heap.size := HW2.out.size
   cases r2 with
   | err k2 =>
    rintro e w5 ⟨rfl, hk5⟩
    have hend : R = .err k2 := by rw [um.out, ← YI.out, ← jW.out.1]; rw [HR2.out]; rfl
    go_wp2_with fail
    refine ⟨rfl, ?_⟩
    rw [hend]
    exact ⟨rfl, mG.out.trans hk5⟩
   | ok es2 l2 =>
    rintro e w5 ⟨y, i4, WS, rfl, rfl, rfl, hx5, xG, hk5⟩
    have tX := qh hx5
    obtain ⟨G9, hs5, hl5, Ha, sZ, tq, tu⟩ := hx5
    rename_i A1 c1 A2 c2 He
    clear sZ tq tu G9 hs5 hl5 Ha
    have mY : (ai y A1 c1 A2 c2).toArray = #[.int .i64 y.k, .int .i64 y.op, .string y.nm, .int .i64 y.v.k, .int .i64 y.v.n, .string y.v.s, .slice A1 y.v.l.length c1, .slice A2 y.ar.length c2] := rfl
    rw [mY]
    clear mY
    have hend : R = .ok [bQ 20 [y]] (wordsOf s.data.toList i4) := by rw [um.out, ← YI.out, ← jW.out.1]; rw [HR2.out]; rfl
    have sK := qh (iC.out.kp hk5 (by omega))
    have hs5 := hk5.size
    go_wp2_with fail
    refine (ji 20 _ 1 1 _).mono ?_
    rintro e w6 ⟨rfl, hb6⟩
    have B6 := (sK.out.alloc (.cells #[.int .i64 y.k, .int .i64 y.op, .string y.nm, .int .i64 y.v.k, .int .i64 y.v.n, .string y.v.s, .slice A1 y.v.l.length c1, .slice A2 y.ar.length c2] 27 (0, 0))).below hb6 (sK.out.alloc _).lt
    obtain ⟨aQ, eX, aS, eY, aT, fD, aU, fE, aY, jR, aZ, jS, bu, jT, bz, jU⟩ := af.z8 B6
    go_wp2_with fail
    refine bodyPost_ret (v := .agg #[.int .i64 4, .int .i64 20, .string ⟨#[]⟩, .int .i64 0, .int .i64 0, .string ⟨#[]⟩, .slice none 0 0, .slice (some ⟨w5.heap.size, 0, none⟩) 1 1]) (by simp [results, Tryz.results151, go_sem, aQ, aS, aT, aU, aY, aZ, bu, bz]) rfl ?_
    rw [hend]
    exact rC (L := W.heap.size) (GK 20 (tX.out.imp (fun k hk _ => by omega)) hb6 (fun k hk => by omega)) hWs hlt ((xG.alloc _).below hb6) (((mG.out.trans hk5).alloc _).trans (Kp.of hb6))
theorem Kp.pV {g b : Nat} {w w' : World} (h : Kp g w w') (hb : w.heap.size ≤ b) (i : Nat) (u : Value) : Kp g w (w'.setCell ⟨b, i, none⟩ u) :=
 ⟨h.os, h.tape, h.output, by have := h.size; simp [World.setCell]; omega, fun k hk hg => (Below.heap_setCell w' ⟨b, i, none⟩ u k (by show k ≠ b; omega)).trans (h.block k hk hg)⟩
theorem dQ.pV {g b : Nat} {w : World} {s : ByteArray} {st : RM} (h : dQ w g s st) (hb : g < b) (i : Nat) (u : Value) : dQ (w.setCell ⟨b, i, none⟩ u) g s st :=
 h.far (by simp [World.setCell]) (fun k hk => Below.heap_setCell w ⟨b, i, none⟩ u k (by show k ≠ b; omega))
theorem Kp.YK {g b : Nat} {w w' : World} (h : Kp g w w') (hb : w.heap.size ≤ b) (a0 a1 a2 a3 : Value) : Kp g w ((((w'.setCell ⟨b, 0, none⟩ a0).setCell ⟨b, 1, none⟩ a1).setCell ⟨b, 2, none⟩ a2).setCell ⟨b, 3, none⟩ a3) :=
 (((h.pV hb 0 a0).pV hb 1 a1).pV hb 2 a2).pV hb 3 a3
theorem dQ.YK {g b : Nat} {w : World} {s : ByteArray} {st : RM} (h : dQ w g s st) (hb : g < b) (a0 a1 a2 a3 : Value) : dQ ((((w.setCell ⟨b, 0, none⟩ a0).setCell ⟨b, 1, none⟩ a1).setCell ⟨b, 2, none⟩ a2).setCell ⟨b, 3, none⟩ a3) g s st :=
 (((h.pV hb 0 a0).pV hb 1 a1).pV hb 2 a2).pV hb 3 a3
theorem JU {b b' : Nat} {T : TypeId} {cs : Array Value} {w : World} (h : af w b' T cs) (hb : b' ≠ b) (a0 a1 a2 a3 : Value) : af ((((w.setCell ⟨b, 0, none⟩ a0).setCell ⟨b, 1, none⟩ a1).setCell ⟨b, 2, none⟩ a2).setCell ⟨b, 3, none⟩ a3) b' T cs :=
 (((h.far (p := ⟨b, 0, none⟩) hb a0).far (p := ⟨b, 1, none⟩) hb a1).far (p := ⟨b, 2, none⟩) hb a2).far (p := ⟨b, 3, none⟩) hb a3
theorem jJ {x : List UInt8} {v : ByteArray} (h : tb x = v) (h0 : x ≠ []) : ∃ hu : 0 < v.size, fM x = decide (v[0] = 123) := by
 cases x with
 | nil => exact absurd rfl h0
 | cons c r =>
  obtain ⟨h1, h2⟩ := nS h rfl
  exact ⟨h1, by rw [h2]; rfl⟩
noncomputable def Hg (x : List UInt8) (a : Nat) (r : List Tok) : jO := match yU x with
 | some v => .ok [dX v] r
 | none => .err a
theorem MJ {w : World} {g : Nat} {s : ByteArray} {t : Tok} {r : List Tok} (h : dQ w g s (.at_ (t :: r))) (hm : TR w g) (hz : s.size ≤ 4000) :
  Calls Tryz.prog 173 #[.pointer (some ⟨g, 0, none⟩)] w fun e w' => ∃ k0 o0 s0 k1 n1 s1 A1 m1 c1 A2 m2 c2, e = .returned (.agg #[.int .i64 k0, .int .i64 o0, .string s0, .int .i64 k1, .int .i64 n1, .string s1, .slice A1 m1 c1, .slice A2 m2 c2]) ∧ RR w g s (Hg (bH t) t.at_ r) [.int .i64 k0, .int .i64 o0, .string s0, .int .i64 k1, .int .i64 n1, .string s1, .slice A1 m1 c1, .slice A2 m2 c2] w' := by
 have qf := qh h
 have HM := qh hm
 have hlt := h.lt
 obtain ⟨i, hi, hL⟩ := h.2
 have hbd := jV hL
 obtain ⟨R, hR⟩ := ae (Hg (bH t) t.at_ r)
 have h0 := jy (s := s) (i := i) t r hL.symm
 obtain ⟨v, hv⟩ := ae (tb (bH t))
 obtain ⟨a, ha⟩ := ae (t.at_)
 have zx := qh (show tb ((RM.at_ (t :: r)).pk s.size).1 = v from hv)
 have jD := qh (show ((RM.at_ (t :: r)).pk s.size).2 = a from ha)
 have HAT := qh (show a = (RM.at_ (t :: r)).ref s.size from ha.symm)
 have vT := qh (show v.data.toList = bH t by rw [← hv, bT])
 have hvs : v.size ≤ 4001 := by rw [← hv, dm]; omega
 obtain ⟨hu0, hbr⟩ := jJ hv h0
 have oI := qh (show R = match yU v.data.toList with
   | some v => jO.ok [dX v] r
   | none => .err a by rw [vT.out, ← hR, ha]; cases h : yU (bH t) <;> simp only [Hg, h])
 have hem := kM hv h0
 have lu := qh (show fM v.data.toList = true → yD v.data.toList by
  rw [vT.out]
  intro hb
  have h63 : bH t ≠ [63] := by
   intro e
   rw [e] at hb
   cases hb
  obtain ⟨-, e⟩ := nP (t := t) rfl h63
  rw [← e] at hb ⊢
  exact OX (dJ hL.symm).1 hb)
 rw [hR]
 rw [show fM (bH t) = fM v.data.toList by rw [vT.out]] at hbr
 clear h hm hR hv ha h0 hL hbd
 go_enter Tryz.func173, Tryz.ntmps173
 go_upto_region 1 with (fail)
 obtain ⟨W, hW, hkW, fV, hszW, hWs, -⟩ := iV g w
 have ny := qh (show dQ W g s (.at_ (t :: r)) by rw [hW]; exact qf.out.alloc _)
 have oZ := qh (HM.out.kp hkW)
 rw [← hW]
 clear hW
 have kY := qh (kX ny.out)
 rw [zx.out, jD.out] at kY
 go_upto_region 2 with (go_at_call 17; (with_reducible refine kY.out.mono ?_); rintro e w1 ⟨rfl, hb1⟩)
 obtain ⟨W1, hW1⟩ := au (w1.alloc (.cells #[.string v, .int .i64 (a : Nat)] 48 (0, 0)))
 have hbW : Below W.heap.size W W1 := by rw [hW1]; exact hb1.alloc hb1.size _
 have BT : af W1 w1.heap.size 48 #[.string v, .int .i64 (a : Nat)] := by rw [hW1]; exact af.new w1 _ _
 have hsW : W.heap.size ≤ w1.heap.size := hb1.size
 rw [← hW1]
 clear hW1 hb1
 have mW := qh (hkW.trans (Kp.of hbW))
 have qc := qh (ny.out.below hbW)
 have eG := qh (fV.out.below hbW fV.out.lt)
 obtain ⟨kD, nz⟩ := af.c2 BT
 have HT1 := qh (HM.out.kp mW.out).all
 go_wp2_with fail
 refine (yO v W1 (by omega) HT1.out.1 HT1.out.2.1 HT1.out.2.2.1).mono ?_
 rintro e w2 ⟨hr2, hb2⟩
 obtain ⟨x, A, c, f, rfl, hrd, hA, hl, hs1, q1, q2⟩ := (SV.of hr2).ex
 have hsz2 : W1.heap.size ≤ w2.heap.size := hb2.size
 have C9 : W.heap.size ≤ W1.heap.size := hbW.size
 obtain ⟨W2, hW2⟩ := au (w2.alloc (.cells #[.int .i64 x.k, .int .i64 x.n, .string x.s, .slice A x.l.length c] 24 (0, 0)))
 have vV : Below W1.heap.size W1 W2 := by rw [hW2]; exact hb2.alloc hb2.size _
 have BV := qh (show af W2 w2.heap.size 24 #[.int .i64 x.k, .int .i64 x.n, .string x.s, .slice A x.l.length c] by rw [hW2]; exact af.new w2 _ _)
 have xy := qh (show Reads W2 W2.heap.size 1 A x.l.length (dS .i64 x.l) ∧ ∀ ad, A = some ad → W.heap.size ≤ ad.block by
  refine ⟨?_, fun ad h => by have := hA ad h; omega⟩
  rw [hW2]
  exact (hrd.below ((Below.refl _ _).alloc (Nat.le_refl _) _)).more (by simp))
 have HQ0 := qh (And.intro q1 q2)
 have XT := BT.below vV BT.lt
 have WY := qh (qc.out.below vV)
 have Il := qh (mW.out.trans (Kp.of vV))
 have qi := qh (eG.out.below vV eG.out.lt)
 have adB : W2.heap.size = w2.heap.size + 1 := by rw [hW2]; simp
 have hg1 : w1.heap.size < w2.heap.size := by have := BT.lt; omega
 clear kD nz hrd hA q1 q2 hr2
 obtain ⟨kD, nz⟩ := af.c2 XT
 obtain ⟨rf, Vl, ug, Vm, uh, Vo, sH, Q7⟩ := af.z4 BV.out
 go_upto_region 3 with (fail)
 rw [← hW2]
 clear hW2
 by_cases hb : v[0] = 123
 case' pos =>
  have bb : ((v[0].toNat : Int) == 123) = true := by rw [hb]; rfl
  have bb' : (v[0].toNat == 123) = true := by rw [hb]; rfl
  rw [decide_eq_true hb] at hbr
  have adC := qh (show oM v.data.toList = fQ (ou v.data.toList) by rw [VP (lu.out hbr)]; unfold ou; rw [hbr, if_pos rfl])
  clear hb hbr HQ0
  have HT2 := qh (HM.out.kp Il.out).all
  go_wp2_with fail
  refine (Us v W2 (by omega) HT2.out.1 HT2.out.2.1 HT2.out.2.2.1).mono ?_
  rintro e w3 ⟨hr3, hb3⟩
  rw [adC.out] at hr3
  obtain ⟨x, A, c, f, rfl, hrd, hA, hl3, hs3, q1, q2⟩ := hr3.ex
  have hsz3 : W2.heap.size ≤ w3.heap.size := hb3.size
  have BV3 := BV.out.below hb3 BV.out.lt
  have adE := qh (WY.out.below hb3)
  have adF := qh (Il.out.trans (Kp.of hb3))
  have aaD := qh (qi.out.below hb3 qi.out.lt)
  have BT3 := qh (XT.below hb3 XT.lt)
  have HQ := qh (And.intro q1 q2)
  have YL := qh (show Reads w3 w3.heap.size 1 A x.l.length (dS .i64 x.l) ∧ ∀ ad, A = some ad → W2.heap.size ≤ ad.block from ⟨hrd, hA⟩)
  clear hb3 hrd hA q1 q2 hr3 WY Il qi xy kD nz rf ug uh sH Vl Vm Vo Q7 hl hs1 XT
  obtain ⟨rf, Vl, ug, Vm, uh, Vo, sH, Q7⟩ := af.z4 BV3
  go_upto_region 5 with (fail)
  obtain ⟨W2, hW3⟩ := au ((((w3.setCell ⟨w2.heap.size, 0, none⟩ (.int .i64 x.k)).setCell ⟨w2.heap.size, 1, none⟩ (.int .i64 x.n)).setCell ⟨w2.heap.size, 2, none⟩ (.string x.s)).setCell ⟨w2.heap.size, 3, none⟩ (.slice A x.l.length c))
  have BV := qh (show af W2 w2.heap.size 24 #[.int .i64 x.k, .int .i64 x.n, .string x.s, .slice A x.l.length c] by rw [hW3]; exact ((((BV3.kE 0 _).kE 1 _).kE 2 _).kE 3 _))
  have WY := qh (show dQ W2 g s (.at_ (t :: r)) by rw [hW3]; exact adE.out.YK (by omega) _ _ _ _)
  have Il := qh (show Kp g w W2 by rw [hW3]; exact adF.out.YK (by omega) _ _ _ _)
  have qi := qh (show ZB W2 w.heap.size by rw [hW3]; exact JU aaD.out (by omega) _ _ _ _)
  have BT4 := (show af W2 w1.heap.size 48 #[.string v, .int .i64 (a : Nat)] by rw [hW3]; exact JU BT3.out (by omega) _ _ _ _)
  have adH : W2.heap.size = w3.heap.size := by rw [hW3]; simp [World.setCell]
  have xy := qh (show Reads W2 W2.heap.size 1 A x.l.length (dS .i64 x.l) ∧ ∀ ad, A = some ad → W.heap.size ≤ ad.block by
   refine ⟨?_, fun ad h => by have := YL.out.2 ad h; omega⟩
   rw [adH, hW3]
   have hap : ∀ ad, A = some ad → w2.heap.size < ad.block := fun ad h => by have := YL.out.2 ad h; omega
   exact (((YL.out.1.apart hap _).apart hap _).apart hap _).apart hap _)
  rw [← hW3]
  clear hW3 BV3 rf ug uh sH Vl Vm Vo Q7
  obtain ⟨kD, nz⟩ := af.c2 BT4
  have rf : W2.cell? ⟨w2.heap.size, 0, none⟩ = some (.int .i64 x.k) := BV.out.cell 0
  have hl := hl3
  have hs1 := hs3
  clear hl3 hs3
 case' neg =>
  have bb : ((v[0].toNat : Int) == 123) = false := by
   have h1 : v[0].toNat ≠ 123 := fun e => hb (UInt8.toNat_inj.1 e)
   simp; omega
  have bb' : (v[0].toNat == 123) = false := by
   have h1 : v[0].toNat ≠ 123 := fun e => hb (UInt8.toNat_inj.1 e)
   simp; omega
  rw [decide_eq_false hb] at hbr
  have HQ := qh (show (f = 0 → fQ (ou v.data.toList) = some x) ∧ (f ≠ 0 → fQ (ou v.data.toList) = none) by
   unfold ou
   rw [hbr, if_neg (by decide)]
   exact HQ0.out)
  clear hb hbr HQ0
  go_upto_region 5 with (fail)
 all_goals
  have JV := qh (show dQ W2 g s (.at_ (t :: r)) from WY.out)
  by_cases hf : f = 0
  ·
   have HO := qh (HQ.out.1 hf)
   subst hf
   by_cases hk0 : x.k = 0
   ·
    have bk0 : (x.k == 0) = true := by rw [hk0]; rfl
    have rD := qh (show R = .err a by rw [oI.out]; unfold yU; rw [HO.out]; show (match (if x.k = 0 ∨ x.k = 1 then none else some x) with | some v => jO.ok [dX v] r | none => .err a) = _; rw [if_pos (.inl hk0)])
    clear hk0
    have wG := qh (nO JV.out v)
    rw [jD.out] at wG
    go_wp2_with (go_at_call 16; (with_reducible refine wG.out.mono ?_); rintro e w9 ⟨rfl, hs9, hk9⟩; have iq := qi.out.kp hk9 (by omega); have Dc := qh hs9; have Qp := qh hk9; clear hs9 hk9; have aQ : w9.cell? ⟨w.heap.size, 0, none⟩ = some (.int .i64 0) := iq.cell 0; have eX : w9.frozen? ⟨w.heap.size, 0, none⟩ = false := iq.frozen 0; have aS : w9.cell? ⟨w.heap.size, 1, none⟩ = some (.int .i64 0) := iq.cell 1; have eY : w9.frozen? ⟨w.heap.size, 1, none⟩ = false := iq.frozen 1; have aT : w9.cell? ⟨w.heap.size, 2, none⟩ = some (.string ⟨#[]⟩) := iq.cell 2; have fD : w9.frozen? ⟨w.heap.size, 2, none⟩ = false := iq.frozen 2; have aU : w9.cell? ⟨w.heap.size, 3, none⟩ = some (.int .i64 0) := iq.cell 3; have fE : w9.frozen? ⟨w.heap.size, 3, none⟩ = false := iq.frozen 3; have aY : w9.cell? ⟨w.heap.size, 4, none⟩ = some (.int .i64 0) := iq.cell 4; have jR : w9.frozen? ⟨w.heap.size, 4, none⟩ = false := iq.frozen 4; have aZ : w9.cell? ⟨w.heap.size, 5, none⟩ = some (.string ⟨#[]⟩) := iq.cell 5; have jS : w9.frozen? ⟨w.heap.size, 5, none⟩ = false := iq.frozen 5; have bu : w9.cell? ⟨w.heap.size, 6, none⟩ = some (.slice none 0 0) := iq.cell 6; have jT : w9.frozen? ⟨w.heap.size, 6, none⟩ = false := iq.frozen 6; have bz : w9.cell? ⟨w.heap.size, 7, none⟩ = some (.slice none 0 0) := iq.cell 7; have jU : w9.frozen? ⟨w.heap.size, 7, none⟩ = false := iq.frozen 7)
    refine bodyPost_ret (v := .agg #[.int .i64 0, .int .i64 0, .string ⟨#[]⟩, .int .i64 0, .int .i64 0, .string ⟨#[]⟩, .slice none 0 0, .slice none 0 0]) (by simp [results, Tryz.results173, go_sem, aQ, aS, aT, aU, aY, aZ, bu, bz]) rfl ⟨0, 0, ⟨#[]⟩, 0, 0, ⟨#[]⟩, none, 0, 0, none, 0, 0, rfl, ?_⟩
    have hend : R = .err ((RM.at_ (t :: r)).ref s.size) := rD.out.trans (by rw [HAT.out])
    rw [hend]
    exact RR.ret (L := W.heap.size) Dc.out (Il.out.trans Qp.out) (fun es l e => by cases e) hWs hlt _ _ _ _ _ _ _ _
   ·
    by_cases hk1 : x.k = 1
    ·
     have bk0 : (x.k == 0) = false := by simpa using hk0
     have bk1 : (x.k == 1) = true := by rw [hk1]; rfl
     have rD := qh (show R = .err a by rw [oI.out]; unfold yU; rw [HO.out]; show (match (if x.k = 0 ∨ x.k = 1 then none else some x) with | some v => jO.ok [dX v] r | none => .err a) = _; rw [if_pos (.inr hk1)])
     clear hk0 hk1
     have wG := qh (nO JV.out v)
     rw [jD.out] at wG
     go_wp2_with (go_at_call 16; (with_reducible refine wG.out.mono ?_); rintro e w9 ⟨rfl, hs9, hk9⟩; have iq := qi.out.kp hk9 (by omega); have Dc := qh hs9; have Qp := qh hk9; clear hs9 hk9; have aQ : w9.cell? ⟨w.heap.size, 0, none⟩ = some (.int .i64 0) := iq.cell 0; have eX : w9.frozen? ⟨w.heap.size, 0, none⟩ = false := iq.frozen 0; have aS : w9.cell? ⟨w.heap.size, 1, none⟩ = some (.int .i64 0) := iq.cell 1; have eY : w9.frozen? ⟨w.heap.size, 1, none⟩ = false := iq.frozen 1; have aT : w9.cell? ⟨w.heap.size, 2, none⟩ = some (.string ⟨#[]⟩) := iq.cell 2; have fD : w9.frozen? ⟨w.heap.size, 2, none⟩ = false := iq.frozen 2; have aU : w9.cell? ⟨w.heap.size, 3, none⟩ = some (.int .i64 0) := iq.cell 3; have fE : w9.frozen? ⟨w.heap.size, 3, none⟩ = false := iq.frozen 3; have aY : w9.cell? ⟨w.heap.size, 4, none⟩ = some (.int .i64 0) := iq.cell 4; have jR : w9.frozen? ⟨w.heap.size, 4, none⟩ = false := iq.frozen 4; have aZ : w9.cell? ⟨w.heap.size, 5, none⟩ = some (.string ⟨#[]⟩) := iq.cell 5; have jS : w9.frozen? ⟨w.heap.size, 5, none⟩ = false := iq.frozen 5; have bu : w9.cell? ⟨w.heap.size, 6, none⟩ = some (.slice none 0 0) := iq.cell 6; have jT : w9.frozen? ⟨w.heap.size, 6, none⟩ = false := iq.frozen 6; have bz : w9.cell? ⟨w.heap.size, 7, none⟩ = some (.slice none 0 0) := iq.cell 7; have jU : w9.frozen? ⟨w.heap.size, 7, none⟩ = false := iq.frozen 7)
     refine bodyPost_ret (v := .agg #[.int .i64 0, .int .i64 0, .string ⟨#[]⟩, .int .i64 0, .int .i64 0, .string ⟨#[]⟩, .slice none 0 0, .slice none 0 0]) (by simp [results, Tryz.results173, go_sem, aQ, aS, aT, aU, aY, aZ, bu, bz]) rfl ⟨0, 0, ⟨#[]⟩, 0, 0, ⟨#[]⟩, none, 0, 0, none, 0, 0, rfl, ?_⟩
     have hend : R = .err ((RM.at_ (t :: r)).ref s.size) := rD.out.trans (by rw [HAT.out])
     rw [hend]
     exact RR.ret (L := W.heap.size) Dc.out (Il.out.trans Qp.out) (fun es l e => by cases e) hWs hlt _ _ _ _ _ _ _ _
    ·
     have bk0 : (x.k == 0) = false := by simpa using hk0
     have bk1 : (x.k == 1) = false := by simpa using hk1
     have Ux := qh (show R = .ok [dX x] r by rw [oI.out]; unfold yU; rw [HO.out]; show (match (if x.k = 0 ∨ x.k = 1 then none else some x) with | some v => jO.ok [dX v] r | none => .err a) = _; rw [if_neg (by rintro (e | e); exact hk0 e; exact hk1 e)])
     clear hk0 hk1
     have HR2 := qh (show pY W2 g s.size (t :: r) ∧ ∃ i, i ≤ s.size ∧ t :: r = wordsOf s.data.toList i from JV.out)
     obtain ⟨ad, c2, hk, hc, -, -, -⟩ := HR2.out.1.head
     have c0 : W2.cell? ⟨g, 0, none⟩ = some (.slice (some ad) (r.length + 1) c2) := hk.cell 0
     have z0 : W2.frozen? ⟨g, 0, none⟩ = false := hk.frozen 0
     have hsl := pO W2 ad r.length c2 hc
     have jW := qh (HR2.out.1.tail hk hc)
     have XU := qh (show ∃ j, j ≤ s.size ∧ r = wordsOf s.data.toList j by
      obtain ⟨i, hi, e⟩ := HR2.out.2
      obtain ⟨j, hj, e2⟩ := mX hi
      exact ⟨j, hj, by rw [← e2, ← e]; rfl⟩)
     clear hk
     by_cases hc1 : c2 = 1
     ·
      subst hc1
      have jW := qh (show pY (W2.setCell ⟨g, 0, none⟩ (.slice (some ad) r.length 0)) g s.size r from jW.out)
      obtain ⟨V, hV⟩ := au (W2.setCell ⟨g, 0, none⟩ (.slice (some ad) r.length 0))
      have MK := qh (show pY V g s.size r by rw [hV]; exact jW.out)
      have zI := qh (show Kp g w V by rw [hV]; exact Il.out.set 0 _)
      have tH := qh (show Kp g W2 V by rw [hV]; exact (iR g _).set 0 _)
      have Vt : V.heap.size = W2.heap.size := by rw [hV]; simp [World.setCell]
      have ML := BV.out.kp tH.out (by omega)
      have uj := qh (qi.out.kp tH.out (by omega))
      have Df := qh (show Reads V V.heap.size 1 A x.l.length (dS .i64 x.l) ∧ ∀ ad, A = some ad → W.heap.size ≤ ad.block by
       refine ⟨?_, xy.out.2⟩
       rw [Vt, hV]
       exact xy.out.1.apart (fun ad h => by have := xy.out.2 ad h; omega) _)
      have YM : w2.heap.size < V.heap.size := ML.lt
      obtain ⟨rf, ug, uh, sH⟩ := af.c4 ML
      go_upto_region 8 with (fail)
      rw [← hV]
      clear hV ML jW
      go_wp2_with fail
      refine (sU x.k x.n x.s A x.l.length c V).mono ?_
      rintro e w8 ⟨rfl, hb8⟩
      have uo := uj.out.below hb8 uj.out.lt
      obtain ⟨aQ, eX, aS, eY, aT, fD, aU, fE, aY, jR, aZ, jS, bu, jT, bz, jU⟩ := af.z8 uo
      go_wp2_with fail
      refine bodyPost_ret (v := .agg #[.int .i64 1, .int .i64 0, .string ⟨#[]⟩, .int .i64 x.k, .int .i64 x.n, .string x.s, .slice A x.l.length c, .slice none 0 0]) (by simp [results, Tryz.results173, go_sem, aQ, aS, aT, aU, aY, aZ, bu, bz]) rfl ⟨1, 0, ⟨#[]⟩, x.k, x.n, x.s, A, x.l.length, c, none, 0, 0, rfl, ?_⟩
      rw [Ux.out]
      exact RR.ret (L := W.heap.size) (show dQ w8 g s (.at_ r) from ⟨MK.out.below hb8, XU.out⟩) (zI.out.trans (Kp.of hb8)) (fun es l e => by
       injection e with e1 e2
       exact ⟨dX x, e1.symm, lD ((Df.out.1.below hb8).more hb8.size) Df.out.2 (by unfold maxLen; omega) (by unfold maxLen; omega)⟩) hWs hlt _ _ _ _ _ _ _ _
     ·
      have jW := qh (show pY (W2.setCell ⟨g, 0, none⟩ (.slice (some ⟨ad.block, ad.off + 2, none⟩) r.length (c2 - 1))) g s.size r from by have h := jW.out; rw [if_neg hc1] at h; exact h)
      obtain ⟨V, hV⟩ := au (W2.setCell ⟨g, 0, none⟩ (.slice (some ⟨ad.block, ad.off + 2, none⟩) r.length (c2 - 1)))
      have MK := qh (show pY V g s.size r by rw [hV]; exact jW.out)
      have zI := qh (show Kp g w V by rw [hV]; exact Il.out.set 0 _)
      have tH := qh (show Kp g W2 V by rw [hV]; exact (iR g _).set 0 _)
      have Vt : V.heap.size = W2.heap.size := by rw [hV]; simp [World.setCell]
      have ML := BV.out.kp tH.out (by omega)
      have uj := qh (qi.out.kp tH.out (by omega))
      have Df := qh (show Reads V V.heap.size 1 A x.l.length (dS .i64 x.l) ∧ ∀ ad, A = some ad → W.heap.size ≤ ad.block by
       refine ⟨?_, xy.out.2⟩
       rw [Vt, hV]
       exact xy.out.1.apart (fun ad h => by have := xy.out.2 ad h; omega) _)
      have YM : w2.heap.size < V.heap.size := ML.lt
      obtain ⟨rf, ug, uh, sH⟩ := af.c4 ML
      go_upto_region 8 with (fail)
      rw [← hV]
      clear hV ML jW
      go_wp2_with fail
      refine (sU x.k x.n x.s A x.l.length c V).mono ?_
      rintro e w8 ⟨rfl, hb8⟩
      have uo := uj.out.below hb8 uj.out.lt
      obtain ⟨aQ, eX, aS, eY, aT, fD, aU, fE, aY, jR, aZ, jS, bu, jT, bz, jU⟩ := af.z8 uo
      go_wp2_with fail
      refine bodyPost_ret (v := .agg #[.int .i64 1, .int .i64 0, .string ⟨#[]⟩, .int .i64 x.k, .int .i64 x.n, .string x.s, .slice A x.l.length c, .slice none 0 0]) (by simp [results, Tryz.results173, go_sem, aQ, aS, aT, aU, aY, aZ, bu, bz]) rfl ⟨1, 0, ⟨#[]⟩, x.k, x.n, x.s, A, x.l.length, c, none, 0, 0, rfl, ?_⟩
      rw [Ux.out]
      exact RR.ret (L := W.heap.size) (show dQ w8 g s (.at_ r) from ⟨MK.out.below hb8, XU.out⟩) (zI.out.trans (Kp.of hb8)) (fun es l e => by
       injection e with e1 e2
       exact ⟨dX x, e1.symm, lD ((Df.out.1.below hb8).more hb8.size) Df.out.2 (by unfold maxLen; omega) (by unfold maxLen; omega)⟩) hWs hlt _ _ _ _ _ _ _ _
  ·
   have bf : (f != 0) = true := by simpa using hf
   have rD := qh (show R = .err a by rw [oI.out]; unfold yU; rw [HQ.out.2 hf])
   clear hf
   have wG := qh (nO JV.out v)
   rw [jD.out] at wG
   go_wp2_with (go_at_call 16; (with_reducible refine wG.out.mono ?_); rintro e w9 ⟨rfl, hs9, hk9⟩; have iq := qi.out.kp hk9 (by omega); have Dc := qh hs9; have Qp := qh hk9; clear hs9 hk9; have aQ : w9.cell? ⟨w.heap.size, 0, none⟩ = some (.int .i64 0) := iq.cell 0; have eX : w9.frozen? ⟨w.heap.size, 0, none⟩ = false := iq.frozen 0; have aS : w9.cell? ⟨w.heap.size, 1, none⟩ = some (.int .i64 0) := iq.cell 1; have eY : w9.frozen? ⟨w.heap.size, 1, none⟩ = false := iq.frozen 1; have aT : w9.cell? ⟨w.heap.size, 2, none⟩ = some (.string ⟨#[]⟩) := iq.cell 2; have fD : w9.frozen? ⟨w.heap.size, 2, none⟩ = false := iq.frozen 2; have aU : w9.cell? ⟨w.heap.size, 3, none⟩ = some (.int .i64 0) := iq.cell 3; have fE : w9.frozen? ⟨w.heap.size, 3, none⟩ = false := iq.frozen 3; have aY : w9.cell? ⟨w.heap.size, 4, none⟩ = some (.int .i64 0) := iq.cell 4; have jR : w9.frozen? ⟨w.heap.size, 4, none⟩ = false := iq.frozen 4; have aZ : w9.cell? ⟨w.heap.size, 5, none⟩ = some (.string ⟨#[]⟩) := iq.cell 5; have jS : w9.frozen? ⟨w.heap.size, 5, none⟩ = false := iq.frozen 5; have bu : w9.cell? ⟨w.heap.size, 6, none⟩ = some (.slice none 0 0) := iq.cell 6; have jT : w9.frozen? ⟨w.heap.size, 6, none⟩ = false := iq.frozen 6; have bz : w9.cell? ⟨w.heap.size, 7, none⟩ = some (.slice none 0 0) := iq.cell 7; have jU : w9.frozen? ⟨w.heap.size, 7, none⟩ = false := iq.frozen 7)
   refine bodyPost_ret (v := .agg #[.int .i64 0, .int .i64 0, .string ⟨#[]⟩, .int .i64 0, .int .i64 0, .string ⟨#[]⟩, .slice none 0 0, .slice none 0 0]) (by simp [results, Tryz.results173, go_sem, aQ, aS, aT, aU, aY, aZ, bu, bz]) rfl ⟨0, 0, ⟨#[]⟩, 0, 0, ⟨#[]⟩, none, 0, 0, none, 0, 0, rfl, ?_⟩
   have hend : R = .err ((RM.at_ (t :: r)).ref s.size) := rD.out.trans (by rw [HAT.out])
   rw [hend]
   exact RR.ret (L := W.heap.size) Dc.out (Il.out.trans Qp.out) (fun es l e => by cases e) hWs hlt _ _ _ _ _ _ _ _
end Go.Proofs.YtobanldeicclmaaGreatDoor
