/- Lemmas for the claim: walks and plain laws. -/
import Derived.Test.YtobanldeicclmaaGreatDoorZ21
import Derived.Test.YtobanldeicclmaaGreatDoorZ25
import Derived.Test.YtobanldeicclmaaGreatDoorZ26
import Derived.Test.YtobanldeicclmaaGreatDoorZ28
set_option maxHeartbeats 8000000
set_option maxRecDepth 100000
namespace Go.Proofs.YtobanldeicclmaaGreatDoor
open Go.RowKit Vtx
attribute [local go_sem ↓] Go.wp_at_zero Go.wp_at_succ
def UB (w : World) (g : Nat) (s : ByteArray) (r : jO) (e : Ending) (w' : World) : Prop := match r with
 | .ok es l' => ∃ x i cs, es = [x] ∧ l' = wordsOf s.data.toList i ∧ e = .returned (.tuple #[.agg cs.toArray, .bool true]) ∧ dK w' (fun b => w.heap.size ≤ b) w'.heap.size x cs ∧ aP w' g s i ∧ Kp g w w'
 | .err k => e = Fv k ∧ Kp g w w'
noncomputable def rH (n : Nat) (x : List UInt8) (r : List Tok) : jO :=
 if cZ x ≠ 0 then (match nameAt r with
  | none => .err (dO n r)
  | some nm => aN n [58] r.tail fun l1 => (Pz n .or [] l1).bind fun es l2 => aN n [41] l2 fun l3 => .ok [bP 5 (cZ x) nm es] l3) else
 if gm x ≠ 0 then (Pz n (.args (gm x)) [] r).bind fun es l1 => aN n [41] l1 fun l2 => .ok [bQ (gm x) es] l2 else
 (match nameAt r with
  | none => .err (dO n r)
  | some nm => aN n [41] r.tail fun l1 => .ok [bP 3 0 nm []] l1)
theorem UC {w w5 : World} {g i : Nat} {s : ByteArray} {x : Ex} {A A' : Option Addr} {c c' : Nat} {L : Nat} (hx : dK w5 (fun b => L < b) w5.heap.size x (ai x A c A' c')) (hW : w.heap.size < L) (hg : g < w.heap.size) (hp : aP w5 g s i) (hk : Kp g w w5) :
  UB w g s (.ok [x] (wordsOf s.data.toList i)) (.returned (.tuple #[.agg #[.int .i64 x.k, .int .i64 x.op, .string x.nm, .int .i64 x.v.k, .int .i64 x.v.n, .string x.v.s, .slice A x.v.l.length c, .slice A' x.ar.length c'], .bool true])) (dU w5 w.heap.size (.int .i64 x.k) (.int .i64 x.op) (.string x.nm) (.int .i64 x.v.k) (.int .i64 x.v.n) (.string x.v.s) (.slice A x.v.l.length c) (.slice A' x.ar.length c')) := by
 have hst : dG (fun b => L < b) w5 (dU w5 w.heap.size (.int .i64 x.k) (.int .i64 x.op) (.string x.nm) (.int .i64 x.v.k) (.int .i64 x.v.n) (.string x.v.s) (.slice A x.v.l.length c) (.slice A' x.ar.length c')) :=
  ⟨by rw [df]; exact Nat.le_refl _, fun k hk hl => by rw [dD _ _ _ _ _ _ _ _ _ _ k (by omega)]⟩
 exact ⟨x, i, ai x A c A' c', rfl, rfl, rfl, ((hx.keep hst).up hst.1).imp (fun k hk _ => by omega), hp.kp (dD _ _ _ _ _ _ _ _ _ _ g (by omega)), fF hk (Nat.le_refl _) _ _ _ _ _ _ _ _⟩
theorem pg {w : World} {p : Nat → Prop} {B : Nat} {es : List Ex} {css : List (List Value)} {A : Option Addr} {c : Nat} (k o : Int) (nm : List UInt8) (hnm : nm.length ≤ maxLen) (h : iw w p es css) (hL : ∀ k, B ≤ k → p k) (ho : w.ownsRow B 27 8 (.slice A es.length c) es.length css.flatten) (hm : es.length ≤ maxLen) :
  dK w p w.heap.size (bP k o nm es) (ai (bP k o nm es) none 0 A c) := by
 have hA : ∀ ad, A = some ad → p ad.block := fun ad e => by
  subst e
  rcases ho.2 with ⟨h0, -⟩ | ⟨g', cap, cur, e0, e1, -⟩
  ·
   cases h0
  ·
   injection e0 with e0 _ _
   injection e0 with e0
   subst e0
   exact hL _ e1
 refine dK.mk (e := bP k o nm es) (A := none) (c := 0) (A' := A) (c' := c) (cs := css.flatten) (show (⟨nm.toArray⟩ : ByteArray).size ≤ maxLen by simpa [ByteArray.size] using hnm) (show 0 ≤ maxLen from Nat.zero_le _) (show 0 ≤ maxLen from Nat.zero_le _) hm ⟨Reads.none_, fun _ ad e => by cases e⟩ ⟨Reads.uq ho, fun _ => hA⟩ (fun i hi => ?_)
 have hi' : i < css.length := by rw [← h.len]; exact hi
 rw [NZ css h.cells i hi']
 exact h.ex i hi hi'
theorem Dk {s : ByteArray} {i : Nat} {x : List UInt8} (h : nameAt (wordsOf s.data.toList i) = some x) (hs : s.size ≤ 4000) : x.length ≤ 4000 := by
 rw [eQ] at h
 cases ht : bV s.data.toList i with
 | none => rw [ht] at h; cases h
 | some t =>
  rw [ht] at h
  have h1 : (if !t.touch && nameB t.tx then some t.tx else none) = some x := h
  split at h1
  ·
   injection h1 with h1
   subst h1
   have := dW ht
   rw [ak] at this
   omega
  ·
   cases h1
theorem Dl {g : Nat} {w w' : World} (h : Kp g w w') {b : Nat} (hb : w.heap.size ≤ b) (i : Nat) (v : Value) : Kp g w (w'.setCell ⟨b, i, none⟩ v) :=
 ⟨h.os, h.tape, h.output, by simp [World.setCell]; exact h.size, fun k hk hg => (Below.heap_setCell w' ⟨b, i, none⟩ v k (fun e => by simp at e; omega)).trans (h.block k hk hg)⟩
theorem row_zero : cZ pI = 0 ∧ gm pI = 0 := by decide
theorem Qr (g : Nat) (s : ByteArray) (i : Nat) (w : World) (hp : aP w g s i) (hm : TM w g) (t u : Tok) (r : List Tok) (hL : wordsOf s.data.toList i = t :: u :: r) (hu : u.tx = [40]) (ho : cZ t.tx ≠ 0) (hP : ∀ L', L'.length ≤ r.length → fK 31 .or s L') :
  Calls Tryz.prog 170 #[.pointer (some ⟨g, 0, none⟩), .string (tb t.tx)] w fun e w' => UB w g s (rH s.data.toList.length t.tx r) e w' := by
 have jD := qh hp
 have HM := qh hm
 have hlt := hp.b.lt
 have hs4 := hp.s
 have hw1 := dJ hL
 have hw2 := dJ hw1.2.symm
 obtain ⟨i1, hi1⟩ := ae (t.at_ + t.tx.length)
 obtain ⟨ea, et, eh⟩ := jX hw1.1
 have HI1 := qh (show aO s i + (aH s i).length = i1 by rw [ea, et, hi1])
 rw [hi1] at hw1 hw2
 have hfree := xN hw2.1 hu (by decide)
 have HWU := qh (show kU (wordsOf s.data.toList i1) [40] = true by rw [← hw1.2]; simp [kU, hfree, hu])
 obtain ⟨i2, hi2⟩ := ae (aO s i1 + (aH s i1).length)
 have HI2 := qh hi2
 have Ep := qh (show wordsOf s.data.toList i2 = r by
  obtain ⟨Vp, WX, -⟩ := jX hw2.1
  rw [← hi2, Vp, WX]; exact hw2.2.symm)
 obtain ⟨x, hx⟩ := ae (t.tx)
 obtain ⟨R, hR⟩ := ae (rH s.data.toList.length t.tx r)
 rw [hR]
 rw [hx] at hR ⊢
 obtain ⟨v, hv⟩ := ae (tb x)
 have HV := qh hv
 have JZ := qh (fun w' => hv ▸ tC x w')
 have J3 := qh (fun w' => hv ▸ xZ x w')
 have HRR := qh hR
 have xk := qh hP
 rw [hv]
 rw [hx] at ho
 clear hR hi1 hi2 ea et eh hw1 hw2 hfree hL hu hp hm hP
 obtain ⟨ov, hov⟩ := ae (cZ x)
 obtain ⟨op, hop⟩ := ae (gm x)
 have aaK := Ul x
 rw [hov] at ho aaK
 have UD : (v.toList == (⟨#[114, 111, 119]⟩ : ByteArray).toList) = false := bZ (fun e => by
  have e2 : x = pI := by rw [← bT x, hv, e]; rfl
  subst e2
  exact ho (hov ▸ row_zero.1))
 have bs : (v.toList == [114, 111, 119]) = false := by simpa using UD
 clear UD
 have bo : (ov == 0) = false := by simp [ho]
 have hgt : (0 : Int) < ov := by omega
 have HRR := qh (show R = (match nameAt r with
  | none => .err (dO s.data.toList.length r)
  | some nm => aN s.data.toList.length [58] r.tail fun l1 => (Pz s.data.toList.length .or [] l1).bind fun es l2 => aN s.data.toList.length [41] l2 fun l3 => .ok [bP 5 ov nm es] l3) by rw [← HRR.out]; unfold rH; rw [hov, if_pos ho])
 have UE := qh hov
 have UF := qh hop
 clear ho aaK hv hx hov hop
 go_enter Tryz.func170, Tryz.ntmps170
 go_upto_region 1 with (fail)
 obtain ⟨W, hW, hkW, BR, hszW, hWs, -⟩ := dY g w
 have iZ := qh (show aP W g s i by rw [hW]; exact jD.out.alloc _)
 have oZ := qh (HM.out.kp hkW)
 have fV := qh BR
 rw [← hW]
 clear hW BR
 go_wp2_with fail
 refine (JZ.out W).mono ?_
 rintro e wa ⟨rfl, hba⟩
 rw [UE.out]
 go_wp2_with fail
 refine (J3.out wa).mono ?_
 rintro e wb ⟨rfl, hbb⟩
 rw [UF.out]
 have hbw : Below W.heap.size W wb := hba.trans (hbb.mono hba.size)
 have HPb := qh (iZ.out.below hbw)
 have HKb := qh (hkW.trans (Kp.of hbw))
 have UG := qh (fV.out.below hbw fV.out.lt)
 have aaN := hbw.size
 clear hba hbb hbw
 have x9 := qh (next_any g s i wb HPb.out)
 rw [HI1.out] at x9
 go_wp2_with (go_at_call 30; (with_reducible refine x9.out.mono ?_); rintro e w2 ⟨rfl, hp2, hk2⟩; have HP2 := qh hp2; have HW2 := qh hk2)
 have Dn := take_any g s i1 w2 HP2.out [40] (by decide)
 rw [HI2.out, show tb [40] = ⟨#[40]⟩ from rfl] at Dn
 refine Dn.mono ?_
 intro e w3 htk
 rw [HWU.out, if_pos rfl] at htk
 obtain ⟨rfl, hp3, hk3⟩ := htk
 have Ik := qh hp3
 have FP := qh ((HKb.out.trans hk2).trans hk3)
 have qO := qh ((UG.out.kp hk2 (by omega)).kp hk3 (by omega))
 have hsz3 : W.heap.size ≤ w3.heap.size := by have h1 := hk2.size; have h2 := hk3.size; omega
 clear Dn hp2 hk2 hp3 hk3
 go_upto_region 8 with (fail)
 obtain ⟨W3, hW3⟩ := au (w3.alloc (.cells #[.int .i64 3, .int .i64 0, .string ⟨#[]⟩, .int .i64 0, .int .i64 0, .string ⟨#[]⟩, .slice none 0 0, .slice none 0 0] 27 (0, 0)))
 have Dp := qh (show aP W3 g s i2 by rw [hW3]; exact Ik.out.alloc _)
 have qg := qh (show Kp g w W3 by rw [hW3]; exact FP.out.alloc _)
 have Dq := qh (show ZB W3 w.heap.size by rw [hW3]; exact qO.out.alloc _)
 have MO := qh (show af W3 w3.heap.size 27 #[.int .i64 3, .int .i64 0, .string ⟨#[]⟩, .int .i64 0, .int .i64 0, .string ⟨#[]⟩, .slice none 0 0, .slice none 0 0] by rw [hW3]; exact af.new w3 _ _)
 have CZ : W3.heap.size = w3.heap.size + 1 := by rw [hW3]; simp
 rw [← hW3]
 clear hW3
 go_wp2_with fail
 refine (JP g s i2 W3 Dp.out).mono ?_
 intro e w4 hl
 unfold WW at hl
 rw [Ep.out] at hl
 obtain ⟨N, hN⟩ := ae (nameAt r)
 rw [hN] at hl
 have HN := qh hN
 cases N with
 | none =>
  obtain ⟨rfl, rfl⟩ := hl
  have hend : R = .err (dO s.data.toList.length r) := by rw [HRR.out, HN.out]
  go_wp2_with fail
  refine ⟨rfl, ?_⟩
  rw [hend]
  exact ⟨rfl, qg.out⟩
 | some nm =>
  obtain ⟨i3, rfl, UH, wu, hk4⟩ := hl
  have hnl := Dk (s := s) (i := i2) (by rw [Ep.out]; exact hN) hs4
  have Ic := qh (show nm.length ≤ maxLen by unfold maxLen; omega)
  obtain ⟨v4, hv4⟩ := ae (tb nm)
  have HV4 := qh hv4
  have YR := qh UH
  have iK := qh (qg.out.trans hk4)
  have B4 := MO.out.kp hk4 (by have := Ik.out.b.lt; omega)
  have HB4 := qh B4
  have vU := qh wu
  have dL := qh (Dq.out.kp hk4 (by omega))
  have vW : W3.heap.size ≤ w4.heap.size := hk4.size
  have hge : g < w3.heap.size := Ik.out.b.lt
  rw [hv4]
  clear hN hv4 UH wu hk4 hnl
  obtain ⟨Ib, fz0, KA, fz1, QW, fz2, QX, fz3, QY, fz4, QZ, fz5, Q3, fz6, Q4, ZJ⟩ := af.z8 B4
  go_wp2_with fail
  obtain ⟨W4, qH⟩ := au (dU w4 w3.heap.size (.int .i64 5) (.int .i64 ov) (.string v4) (.int .i64 0) (.int .i64 0) (.string ⟨#[]⟩) (.slice none 0 0) (.slice none 0 0))
  have adR := qh (show af W4 w3.heap.size 27 #[.int .i64 5, .int .i64 ov, .string v4, .int .i64 0, .int .i64 0, .string ⟨#[]⟩, .slice none 0 0, .slice none 0 0] by rw [qH]; exact iy HB4.out _ _ _ _ _ _ _ _)
  have adS := qh (show aP W4 g s i3 by rw [qH]; exact vU.out.kp (dD _ _ _ _ _ _ _ _ _ _ g (by omega)))
  have En := qh (show Kp g w W4 by rw [qH]; exact fF iK.out (by omega) _ _ _ _ _ _ _ _)
  have aaO := qh (show ZB W4 w.heap.size by
   rw [qH]
   (try unfold ZB); unfold af
   rw [dD _ _ _ _ _ _ _ _ _ _ _ (by omega)]
   exact dL.out)
  have aaP : W4.heap.size = w4.heap.size := by rw [qH, df]
  dsimp only [dU] at qH
  rw [← qH]
  clear qH B4
  have lh := take_any g s i3 W4 adS.out [58] (by decide)
  obtain ⟨i4, hi4⟩ := ae (aO s i3 + (aH s i3).length)
  have yY := fun h => kL (s := s) (i := i3) (word := [58]) h
  rw [show tb [58] = ⟨#[58]⟩ from rfl, hi4] at lh
  rw [hi4] at yY
  refine lh.mono ?_
  intro e w5 htk
  obtain ⟨b4, hb4⟩ := ae (kU (wordsOf s.data.toList i3) [58])
  rw [hb4] at htk
  cases b4
  ·
   rw [if_neg (by decide)] at htk
   obtain ⟨rfl, rfl⟩ := htk
   have hend : R = .err (aO s i3) := by rw [HRR.out, HN.out]; dsimp only; unfold aN; rw [← YR.out, if_neg (by rw [hb4]; decide), lT]
   go_wp2_with fail
   refine ⟨rfl, ?_⟩
   rw [hend]
   exact ⟨rfl, En.out⟩
  ·
   rw [if_pos rfl] at htk
   obtain ⟨rfl, xG, hk5⟩ := htk
   have J4 := qh (yY hb4)
   have YS := qh (show R = (Pz s.data.toList.length .or [] (wordsOf s.data.toList i4)).bind fun es l2 => aN s.data.toList.length [41] l2 fun l3 => .ok [bP 5 ov nm es] l3 by
    rw [HRR.out, HN.out]; dsimp only; rw [aN, ← YR.out, if_pos hb4, ← J4.out.1])
   have D6 := qh xG
   have rq := qh (En.out.trans hk5)
   have sK := qh (adR.out.kp hk5 (by omega))
   have oP := qh (aaO.out.kp hk5 (by omega))
   have hsz5 : W4.heap.size ≤ w5.heap.size := hk5.size
   clear lh yY hi4 hb4 xG hk5
   go_wp2_with fail
   obtain ⟨r2, hr2⟩ := ae (Pz s.data.toList.length .or [] (wordsOf s.data.toList i4))
   have HC2 := xk.out (wordsOf s.data.toList i4) (by
    have h1 := J4.out.2
    have h2 := YR.out
    rw [h2, List.length_tail] at h1
    omega) g i4 w5 D6.out (HM.out.kp rq.out) rfl
   rw [hr2] at HC2 YS
   refine HC2.mono ?_
   cases r2 with
   | err k =>
    rintro e w6 ⟨rfl, hk6⟩
    have hend : R = .err k := YS.out
    go_wp2_with fail
    refine ⟨rfl, ?_⟩
    rw [hend]
    exact ⟨rfl, rq.out.trans hk6⟩
   | ok es l2 =>
    rintro e w6 ⟨y, i5, cs6, rfl, rfl, rfl, hx6, hp6, hk6⟩
    have Qo := qh hx6
    obtain ⟨hn6, hs6, hl6, ha6, adT, adU, adV⟩ := hx6
    rename_i A1 c1 A2 c2 ahJ
    clear adT adU adV hn6 hs6 hl6 ha6
    have aaQ : (ai y A1 c1 A2 c2).toArray = #[.int .i64 y.k, .int .i64 y.op, .string y.nm, .int .i64 y.v.k, .int .i64 y.v.n, .string y.v.s, .slice A1 y.v.l.length c1, .slice A2 y.ar.length c2] := rfl
    rw [aaQ]
    clear aaQ
    have Io := qh (sK.out.kp hk6 (by omega))
    have YT := qh (oP.out.kp hk6 (by omega))
    have HP6 := qh hp6
    have HK6 := qh (rq.out.trans hk6)
    have YP : w5.heap.size ≤ w6.heap.size := hk6.size
    have B6 := Io.out.alloc (.cells #[.int .i64 y.k, .int .i64 y.op, .string y.nm, .int .i64 y.v.k, .int .i64 y.v.n, .string y.v.s, .slice A1 y.v.l.length c1, .slice A2 y.ar.length c2] 27 (0, 0))
    have f7 : (w6.alloc (.cells #[.int .i64 y.k, .int .i64 y.op, .string y.nm, .int .i64 y.v.k, .int .i64 y.v.n, .string y.v.s, .slice A1 y.v.l.length c1, .slice A2 y.ar.length c2] 27 (0, 0))).cell? ⟨w3.heap.size, 7, none⟩ = some (.slice none 0 0) := B6.cell 7
    have ZJ : (w6.alloc (.cells #[.int .i64 y.k, .int .i64 y.op, .string y.nm, .int .i64 y.v.k, .int .i64 y.v.n, .string y.v.s, .slice A1 y.v.l.length c1, .slice A2 y.ar.length c2] 27 (0, 0))).frozen? ⟨w3.heap.size, 7, none⟩ = false := B6.frozen 7
    have f7' : w6.cell? ⟨w3.heap.size, 7, none⟩ = some (.slice none 0 0) := Io.out.cell 7
    have YU : w6.frozen? ⟨w3.heap.size, 7, none⟩ = false := Io.out.frozen 7
    clear hp6 hk6
    go_wp2_with fail
    obtain ⟨W6, XY⟩ := au (w6.alloc (.cells #[.int .i64 y.k, .int .i64 y.op, .string y.nm, .int .i64 y.v.k, .int .i64 y.v.n, .string y.v.s, .slice A1 y.v.l.length c1, .slice A2 y.ar.length c2] 27 (0, 0)))
    rw [← XY] at B6 ⊢
    have afK : W6.heap.size = w6.heap.size + 1 := by rw [XY]; simp
    have adW := qh (show aP W6 g s i5 by rw [XY]; exact HP6.out.alloc _)
    have adX := qh (show Kp g w W6 by rw [XY]; exact HK6.out.alloc _)
    have aaS := qh (show ZB W6 w.heap.size by rw [XY]; exact YT.out.alloc _)
    have adY := qh (show dK W6 (fun b => w3.heap.size < b) W6.heap.size y (ai y A1 c1 A2 c2) by
     rw [XY]
     exact ((Qo.out.imp (q := fun b => w3.heap.size < b) (fun k hk _ => by omega)).keep (dG.of ((Below.refl _ _).alloc (Nat.le_refl _) _))).up (by simp))
    have HN6 := qh (show dK W6 (fun b => w3.heap.size < b) W6.heap.size (bP 5 ov nm [y]) (ai (bP 5 ov nm [y]) none 0 (some ⟨w6.heap.size, 0, none⟩) 1) from
     pg (B := w6.heap.size) 5 ov nm Ic.out (iw.one adY.out) (fun k hk => by omega) (by
      have h1 : W6.ownsRow w6.heap.size 27 8 (.slice (some ⟨w6.heap.size, 0, none⟩) 1 1) 1 (ai y A1 c1 A2 c2) := by rw [XY]; exact qB (af.new w6 _ _) (Nat.le_refl _) rfl
      simpa using h1) (show 1 ≤ maxLen by decide))
    clear f7 ZJ f7' YU XY
    obtain ⟨WT, Dt⟩ := au (W6.setCell ⟨w3.heap.size, 7, none⟩ (.slice (some ⟨w6.heap.size, 0, none⟩) 1 1))
    have xU : ∀ k, k ≠ w3.heap.size → WT.heap[k]? = W6.heap[k]? := fun k hk => by rw [Dt]; exact Below.heap_setCell W6 ⟨w3.heap.size, 7, none⟩ _ k hk
    have aaT : WT.heap.size = W6.heap.size := by rw [Dt]; simp [World.setCell]
    have NH := qh (adW.out.kp (xU g (by omega)))
    have KF := qh (show Kp g w WT by rw [Dt]; exact Dl adX.out (by omega) _ _)
    have UI := qh (show af WT w3.heap.size 27 #[.int .i64 5, .int .i64 ov, .string v4, .int .i64 0, .int .i64 0, .string ⟨#[]⟩, .slice none 0 0, .slice (some ⟨w6.heap.size, 0, none⟩) 1 1] by
     rw [Dt]
     have h1 := B6.kE 7 (.slice (some ⟨w6.heap.size, 0, none⟩) 1 1)
     simpa using h1)
    have UJ := qh (show ZB WT w.heap.size by (try unfold ZB); unfold af; rw [xU _ (by omega)]; exact aaS.out)
    have HXT := qh (show dK WT (fun b => w3.heap.size < b) WT.heap.size (bP 5 ov nm [y]) (ai (bP 5 ov nm [y]) none 0 (some ⟨w6.heap.size, 0, none⟩) 1) from
     (HN6.out.keep ⟨by omega, fun k hk _ => xU k (by omega)⟩).up (by omega))
    have KG := qh (show R = aN s.data.toList.length [41] (wordsOf s.data.toList i5) fun l => .ok [bP 5 ov nm [y]] l from YS.out)
    rw [← Dt]
    clear Dt
    have tJ := take_any g s i5 WT NH.out [41] (by decide)
    obtain ⟨i6, Hm⟩ := ae (aO s i5 + (aH s i5).length)
    have htl := fun h => kL (s := s) (i := i5) (word := [41]) h
    rw [show tb [41] = ⟨#[41]⟩ from rfl, Hm] at tJ
    rw [Hm] at htl
    refine tJ.mono ?_
    intro e w8 htk
    obtain ⟨b5, hb5⟩ := ae (kU (wordsOf s.data.toList i5) [41])
    rw [hb5] at htk
    cases b5
    ·
     rw [if_neg (by decide)] at htk
     obtain ⟨rfl, rfl⟩ := htk
     have hend : R = .err (aO s i5) := by rw [KG.out]; unfold aN; rw [if_neg (by rw [hb5]; decide), lT]
     have eH := qh hend
     clear hend tJ htl Hm
     go_wp2_with fail
     refine ⟨rfl, ?_⟩
     rw [eH.out]
     exact ⟨rfl, KF.out⟩
    ·
     rw [if_pos rfl] at htk
     obtain ⟨rfl, UK, hk8⟩ := htk
     have hend : R = .ok [bP 5 ov nm [y]] (wordsOf s.data.toList i6) := by rw [KG.out]; unfold aN; rw [if_pos hb5, ← (htl hb5).1]
     have eH := qh hend
     have Xd := qh (HXT.out.N7 hk8 (fun k hk => by omega))
     have YV := qh UK
     have Ip := qh (KF.out.trans hk8)
     have B8 := UI.out.kp hk8 (by omega)
     have uo := UJ.out.kp hk8 (by omega)
     clear hend tJ htl Hm hb5 UK hk8
     obtain ⟨Qs, Qu, Qv, Qw, Qx, Qy, Qz, QA⟩ := af.c8 B8
     obtain ⟨aQ, eX, aS, eY, aT, fD, aU, fE, aY, jR, aZ, jS, bu, jT, bz, jU⟩ := af.z8 uo
     go_wp2_with fail
     refine bodyPost_ret (v := .tuple #[.agg #[.int .i64 5, .int .i64 ov, .string v4, .int .i64 0, .int .i64 0, .string ⟨#[]⟩, .slice none 0 0, .slice (some ⟨w6.heap.size, 0, none⟩) 1 1], .bool true]) (by simp [results, Tryz.results170, go_sem, aQ, aS, aT, aU, aY, aZ, bu, bz]) rfl ?_
     rw [eH.out]
     have hv4 := HV4.out
     subst hv4
     exact UC (L := w3.heap.size) (x := bP 5 ov nm [y]) (A := none) (c := 0) (A' := some ⟨w6.heap.size, 0, none⟩) (c' := 1) Xd.out (by omega) hlt YV.out Ip.out
theorem J5 (W : World) (ad : Addr) (n c : Nat) (hc : n + 2 ≤ c) : (Instr.slice 41 (.slice (some ad) (n + 2) c) (some (.int .i64 2)) none none).run Tryz.prog W = .ok (.slice (if c = 2 then some ad else some (ad.add 4)) n (c - 2)) W := by
 have hs : ∀ w : World, (sizeOf 48).run Tryz.prog w = .ok 2 w := fun w => by kernel_rfl
 have he : Tryz.prog.elem 41 = 48 := by simp [Program.elem, Tryz.underlying41]
 have hu : Tryz.prog.underlying 41 = some (.slice (Tryz.prog.elem 41)) := by rw [he]; exact Tryz.underlying41
 rw [run_slice_l W 41 (some ad) (n + 2) c hu .i64 2 (by omega) (by omega), he, hs]
 simp [Result.andThen, sliced]
theorem pY.aaV {w : World} {g sz : Nat} {t u : Tok} {r : List Tok} {ad : Addr} {c : Nat} (h : pY w g sz (t :: u :: r)) (hb : af w g 44 #[.slice (some ad) (r.length + 2) c, .int .i64 (sz : Nat), .bool false, .int .i64 0]) (hc : r.length + 2 ≤ c) : pY (w.setCell ⟨g, 0, none⟩ (.slice (if c = 2 then some ad else some (ad.add 4)) r.length (c - 2))) g sz r := by
 obtain ⟨A, c', h1, h2, h3⟩ := h.ex
 have e := h1.symm.trans hb
 have ea : (.slice A (t :: u :: r).length c' : Value) = .slice (some ad) (r.length + 2) c := by
  injection e with e
  injection e with e1
  have el := congrArg Array.toList e1
  simp only [List.cons.injEq, and_true] at el
  exact el
 injection ea with ea1 Vp ea3
 subst ea1 ea3
 have xU : ∀ k, k ≠ g → (w.setCell ⟨g, 0, none⟩ (.slice (if c' = 2 then some ad else some (ad.add 4)) r.length (c' - 2))).heap[k]? = w.heap[k]? := fun k hk => Below.heap_setCell w ⟨g, 0, none⟩ _ k hk
 have hsz : (w.setCell ⟨g, 0, none⟩ (.slice (if c' = 2 then some ad else some (ad.add 4)) r.length (c' - 2))).heap.size = w.heap.size := by simp [World.setCell]
 have hbk := hb.kE 0 (.slice (if c' = 2 then some ad else some (ad.add 4)) r.length (c' - 2))
 refine ⟨⟨_, c' - 2, by simpa using hbk, ?_, by omega⟩, by have := h.len; simp at this; omega⟩
 have hr : mV w (fun b => b < g) w.heap.size 2 (if c' = 2 then some ad else some (ad.add 4)) r.length (iT r) := by
  refine ⟨⟨yK r, fun h0 => ?_⟩, fun h0 ad' e => ?_⟩
  ·
   obtain ⟨ad0, e0, hB, hcell⟩ := h2.r.2 (by simp)
   injection e0 with e0
   subst e0
   refine ⟨ad.add 4, by rw [if_neg (by omega)], by rw [ja]; exact hB, fun j u' hu => ?_⟩
   rw [pq]
   refine hcell (4 + j) u' ?_
   unfold iT at *
   rw [List.flatMap_cons, List.flatMap_cons, ← List.append_assoc, List.getElem?_append_right (by simp)]
   simpa using hu
  ·
   rw [if_neg (by omega)] at e
   injection e with e
   subst e
   rw [ja]
   exact h2.l (by simp) ad rfl
 exact (hr.keep ⟨by omega, fun k hk _ => xU k (Nat.ne_of_lt hk)⟩).up (by omega)
theorem Du {w : World} {g : Nat} {s : ByteArray} {t u : Tok} {r : List Tok} (h : dQ w g s (.at_ (t :: u :: r))) : ∃ ad c A' c', w.cell? ⟨g, 0, none⟩ = some (.slice (some ad) (r.length + 2) c) ∧ w.frozen? ⟨g, 0, none⟩ = false ∧
  (Instr.slice 41 (.slice (some ad) (r.length + 2) c) (some (.int .i64 2)) none none).run Tryz.prog w = .ok (.slice A' r.length c') w ∧ dQ (w.setCell ⟨g, 0, none⟩ (.slice A' r.length c')) g s (.at_ r) := by
 obtain ⟨h1, i, hi, hl⟩ := h
 obtain ⟨ad, c, hk, hc, -, -, -⟩ := h1.head
 obtain ⟨j, hj, e1⟩ := mX hi
 obtain ⟨k, hk2, e2⟩ := mX hj
 refine ⟨ad, c, if c = 2 then some ad else some (ad.add 4), c - 2, hk.cell 0, hk.frozen 0, J5 w ad r.length c hc, h1.aaV hk hc, k, hk2, ?_⟩
 rw [← e2, ← e1, ← hl]
 rfl
theorem rJ {x : List UInt8} (h : nameB x = true) : aB.contains x = false ∧ x ≠ iP ∧ x ≠ dV := by
 obtain ⟨-, -, -, c, y, rfl, -⟩ := lN h
 have h : (dE c && !aB.contains (c :: y)) = true := h
 obtain ⟨-, h2⟩ := (Bool.and_eq_true _ _).mp h
 have h3 : aB.contains (c :: y) = false := by simpa using h2
 refine ⟨h3, fun e => ?_, fun e => ?_⟩
 ·
  rw [e] at h3; exact absurd h3 (by decide)
 ·
  rw [e] at h3; exact absurd h3 (by decide)
theorem Ho {w : World} {p : Nat → Prop} (k o : Int) (nm : List UInt8) (hnm : nm.length ≤ maxLen) : dK w p w.heap.size (bP k o nm []) [.int .i64 k, .int .i64 o, .string (tb nm), .int .i64 0, .int .i64 0, .string ⟨#[]⟩, .slice none 0 0, .slice none 0 0] :=
 dK.mk (e := bP k o nm []) (A := none) (c := 0) (A' := none) (c' := 0) (cs := []) (show (tb nm).size ≤ maxLen by rw [dm]; exact hnm) (show 0 ≤ maxLen from Nat.zero_le _) (show 0 ≤ maxLen from Nat.zero_le _) (show 0 ≤ maxLen from Nat.zero_le _) ⟨Reads.none_, fun _ ad e => by cases e⟩ ⟨Reads.none_, fun _ ad e => by cases e⟩ (fun i hi => absurd hi (by simp [bP, Ex.ar]))
theorem UL {w : World} {g : Nat} {s : ByteArray} {st : RM} (h : dQ w g s st) (hz : s.size ≤ 4000) : (st.nm.getD []).length ≤ 4000 := by
 cases st with
 | wr k => exact Nat.zero_le _
 | at_ l =>
  obtain ⟨-, i, hi, rfl⟩ := h
  show ((nameAt (wordsOf s.data.toList i)).getD []).length ≤ 4000
  cases hn : nameAt (wordsOf s.data.toList i) with
  | none => exact Nat.zero_le _
  | some x => exact Dk hn hz
theorem QB (s : ByteArray) (t : Tok) (r : List Tok) (hrow : bH t = pI) (hcl : (RM.at_ (t :: r)).cl = true) (hz : s.size ≤ 4000) : MS 162 .az s (.at_ (t :: r)) := by
 have hn : nameB (bH t) = true := by rw [hrow]; decide
 intro g w hp hm
 have hlt := hp.lt
 have HM := qh hm
 have qf := qh hp
 obtain ⟨i, hi, hL⟩ := hp.2
 have Uy := qh hL.symm
 have hbd := jV hL
 have h0 := jy (s := s) (i := i) t r hL.symm
 obtain ⟨v, hv⟩ := ae (tb (bH t))
 obtain ⟨a, ha⟩ := ae (t.at_)
 have zx := qh (show tb ((RM.at_ (t :: r)).pk s.size).1 = v from hv)
 have jD := qh (show ((RM.at_ (t :: r)).pk s.size).2 = a from ha)
 have HAT := qh (show a = (RM.at_ (t :: r)).ref s.size from ha.symm)
 have HV := qh hv
 have vT := qh (show v.data.toList = bH t by rw [← hv, bT])
 have hvs : v.size ≤ 4001 := by rw [← hv, dm]; omega
 have hem := kM hv h0
 obtain ⟨hu0, -⟩ := jJ hv h0
 have hnf := lN hn
 have hmo := rJ hn
 have GM := qh hnf.2.2.2
 have wU := qh hmo.2
 have YF := qh hn
 have hb : bH t ≠ [40] := hnf.2.1
 have yX := qh (show (RM.at_ (t :: r)).is [40] = false from decide_eq_false hb)
 have G6 : v.data.toList = bH t := vT.out
 have qN := qh (fun W hW => jk v W hW)
 rw [G6, hmo.1] at qN
 have HZ := qh hz
 obtain ⟨R, hR⟩ := ae ((RM.at_ (t :: r)).P s.data.toList.length .az)
 have Xe := qh (nP (t := t) rfl hnf.1)
 rw [hR]
 obtain ⟨u, r', MN⟩ : ∃ u r', r = u :: r' := by
  cases r with
  | nil => cases hcl
  | cons u r' => exact ⟨u, r', rfl⟩
 have HRU := qh MN
 have Hl := qh (show R = Qk s.data.toList.length (.at_ r') from hR.symm.trans ((Uo hrow (by rw [← rG hL.symm Xe.out.1]; exact hcl)).trans (by rw [MN]; rfl)))
 have hrs := Qm (n := s.data.toList.length) (st := .at_ r')
 rw [← Hl.out] at hrs
 have YW := qh hrs
 have Hq := qh hcl
 have YX : (v.toList == [114, 111, 119]) = true := by rw [ByteArray.toList_eq, vT.out, hrow]; rfl
 have hn0 := mF GM.out
 obtain ⟨c0, y0, hcy, hlc⟩ := hn0
 have uX := nS hv hcy
 obtain ⟨_, uX⟩ := uX
 have Di : ¬ ((v[0].toNat : Nat) : Int) < 97 := by rw [uX]; have := hlc; unfold dE at this; simp at this; omega
 have uY : ¬ 122 < ((v[0].toNat : Nat) : Int) := by rw [uX]; have := hlc; unfold dE at this; simp at this; omega
 have d1 : decide (((v[0].toNat : Nat) : Int) < 97) = false := by simpa using Di
 have d2 : decide (122 < ((v[0].toNat : Nat) : Int)) = false := by simpa using uY
 have b1 : (v.toList == [116, 114, 117, 101]) = false := by rw [ByteArray.toList_eq, vT.out, beq_eq_false_iff_ne]; exact wU.out.1
 have b2 : (v.toList == [102, 97, 108, 115, 101]) = false := by rw [ByteArray.toList_eq, vT.out, beq_eq_false_iff_ne]; exact wU.out.2
 clear hcy hlc uX
 clear hp hm hR hv ha hL hb h0 hnf hmo hn G6 hz hrs hcl hrow MN
 go_enter Tryz.func162, Tryz.ntmps162
 go_upto_region 1 with (fail)
 obtain ⟨W, hW, hkW, fV, hszW, hWs, -⟩ := iV g w
 have ny := qh (show dQ W g s (.at_ (t :: r)) by rw [hW]; exact qf.out.alloc _)
 have oZ := qh (HM.out.kp hkW)
 rw [← hW]
 clear hW
 have kY := qh (kX ny.out)
 rw [zx.out, jD.out] at kY
 go_upto_region 2 with (go_at_call 17; (with_reducible refine kY.out.mono ?_); rintro e w1 ⟨rfl, hb1⟩)
 obtain ⟨W1, hW1⟩ := au (w1.alloc (.cells #[.string v, .int .i64 (a : Nat)] 48 (0, 0)))
 have hbW : Below W.heap.size W W1 := by rw [hW1]; exact hb1.alloc hb1.size _
 have BT : af W1 w1.heap.size 48 #[.string v, .int .i64 (a : Nat)] := by rw [hW1]; exact af.new w1 _ _
 have hsW : W.heap.size ≤ w1.heap.size := hb1.size
 rw [← hW1]
 clear hW1 hb1
 have mW := qh (hkW.trans (Kp.of hbW))
 have qc := qh (ny.out.below hbW)
 have eG := qh (fV.out.below hbW fV.out.lt)
 obtain ⟨kD, nz⟩ := af.c2 BT
 have C9 : W.heap.size ≤ W1.heap.size := hbW.size
 have yh := qh (wH qc.out yX.out)
 rw [show tb [40] = ⟨#[40]⟩ from rfl] at yh
 go_upto_region 8 with (go_at_call 37; (with_reducible refine yh.out.mono ?_); rintro e w2 ⟨rfl, rfl⟩)
 have Dj := qh (HM.out.kp mW.out).all.2.2.2
 go_wp2_with fail
 refine (qN.out W1 Dj.out).mono ?_
 rintro e w2 ⟨rfl, hb2⟩
 have HS2 := qh (qc.out.below hb2)
 have mG := qh (mW.out.trans (Kp.of hb2))
 have iC := qh (eG.out.below hb2 eG.out.lt)
 have qj := qh (BT.below hb2 BT.lt)
 have hsz2 := hb2.size
 clear kD nz BT
 obtain ⟨kD, nz⟩ := af.c2 qj.out
 have Ej := qh (fun W' (hb' : Below w2.heap.size w2 W') => oC (HS2.out.below hb') HZ.out)
 rw [Hq.out] at Ej
 go_wp2_with fail
 refine (Ej.out w2 (Below.refl _ _)).mono ?_
 rintro e w3 ⟨rfl, hb3⟩
 have HS3 := qh (HS2.out.below hb3)
 have FP := qh (mG.out.trans (Kp.of hb3))
 have qO := qh (iC.out.below hb3 iC.out.lt)
 have BT3 := qj.out.below hb3 qj.out.lt
 have hsz3 := hb3.size
 clear kD nz hb3
 have kD : w3.cell? ⟨w1.heap.size, 0, none⟩ = some (.string v) := BT3.cell 0
 obtain ⟨ad, c, A2, c2, gc0, gz0, hsl, hst⟩ := Du (show dQ w3 g s (.at_ (t :: u :: r')) by rw [← HRU.out]; exact HS3.out)
 have HST := qh hst
 clear hst
 go_upto_region 14 with (fail)
 obtain ⟨V, hV⟩ := au (w3.setCell ⟨g, 0, none⟩ (.slice A2 r'.length c2))
 have J6 := qh (show dQ V g s (.at_ r') by rw [hV]; exact HST.out)
 have zI := qh (show Kp g w V by rw [hV]; exact FP.out.set 0 _)
 have tH := qh (show Kp g w3 V by rw [hV]; exact (iR g _).set 0 _)
 have Vt : V.heap.size = w3.heap.size := by rw [hV]; simp [World.setCell]
 have uj := qh (qO.out.kp tH.out (by omega))
 rw [← hV]
 clear hV HST
 have NM := qh (iJ J6.out (HM.out.kp zI.out).all.2.2.2)
 have Ic := qh (UL J6.out HZ.out)
 obtain ⟨nm, hnm⟩ := ae ((RM.at_ r').nm.getD [])
 rw [hnm] at NM Ic YW
 obtain ⟨x, hx⟩ := ae (tb nm)
 rw [hx] at NM
 have HX := qh hx
 clear hnm hx
 go_wp2_with fail
 refine NM.out.mono ?_
 rintro e w4 ⟨rfl, hs4, hk4⟩
 have vW := hk4.size
 obtain ⟨W4, qH⟩ := au (w4.alloc (.cells #[.int .i64 3, .int .i64 0, .string x, .int .i64 0, .int .i64 0, .string ⟨#[]⟩, .slice none 0 0, .slice none 0 0] 27 (0, 0)))
 have pX := qh (show dQ W4 g s ((RM.at_ r').CX s.size) by rw [qH]; exact hs4.alloc _)
 have iK := qh (show Kp g w W4 by rw [qH]; exact (zI.out.trans hk4).alloc _)
 have dL := qh (show ZB W4 w.heap.size by rw [qH]; exact (uj.out.kp hk4 (by omega)).alloc _)
 have adZ := qh (show af W4 w4.heap.size 27 #[.int .i64 3, .int .i64 0, .string x, .int .i64 0, .int .i64 0, .string ⟨#[]⟩, .slice none 0 0, .slice none 0 0] by rw [qH]; exact af.new w4 _ _)
 have aaP : W4.heap.size = w4.heap.size + 1 := by rw [qH]; simp
 clear hs4 hk4
 have MP := qh (yR pX.out [41])
 rw [show tb [41] = ⟨#[41]⟩ from rfl] at MP
 go_upto_region 15 with (fail)
 rw [← qH]
 clear qH
 go_wp2_with fail
 refine MP.out.mono ?_
 rintro e w5 ⟨rfl, hs5, hk5⟩
 have B5 := adZ.out.kp hk5 (by omega)
 have wE := dL.out.kp hk5 (by omega)
 obtain ⟨CJ, CO, Ea, Eb, Ec, Ed, Ee, Ef⟩ := af.c8 B5
 obtain ⟨aQ, eX, aS, eY, aT, fD, aU, fE, aY, jR, aZ, jS, bu, jT, bz, jU⟩ := af.z8 wE
 go_wp2_with fail
 refine bodyPost_ret (v := .agg #[.int .i64 3, .int .i64 0, .string x, .int .i64 0, .int .i64 0, .string ⟨#[]⟩, .slice none 0 0, .slice none 0 0]) (by simp [results, Tryz.results162, go_sem, aQ, aS, aT, aU, aY, aZ, bu, bz]) rfl ⟨3, 0, x, 0, 0, ⟨#[]⟩, none, 0, 0, none, 0, 0, rfl, ?_⟩
 refine RR.ret (L := W.heap.size) ?_ (iK.out.trans hk5) (fun es l e => ⟨_, YW.out.2 es l e, by rw [← HX.out]; exact Ho 3 0 nm (by have := Ic.out; unfold maxLen; omega)⟩) hWs hlt _ _ _ _ _ _ _ _
 rw [YW.out.1]
 exact hs5
end Go.Proofs.YtobanldeicclmaaGreatDoor
