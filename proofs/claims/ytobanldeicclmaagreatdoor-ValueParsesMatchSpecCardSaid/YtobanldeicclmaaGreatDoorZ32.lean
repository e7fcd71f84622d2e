/- Lemmas for the claim: walks and plain laws. -/
import Derived.Test.YtobanldeicclmaaGreatDoorZ31
set_option maxHeartbeats 16000000
set_option maxRecDepth 100000
namespace Go.Proofs.YtobanldeicclmaaGreatDoor
open Go.RowKit Vtx
attribute [local go_sem ↓] Go.wp_at_zero Go.wp_at_succ
theorem abt {o : Int} (h1 : 1 ≤ o) (h2 : o ≤ 39) : (xe o = true → iU o = (2, 1099511627776)) ∧ (xe o = false → iU o = ((oG o).length, (oG o).length)) ∧ 1 ≤ (oG o).length ∧ (oG o).length ≤ 3 := by
 obtain rfl | rfl | rfl | rfl | rfl | rfl | rfl | rfl | rfl | rfl | rfl | rfl | rfl | rfl | rfl | rfl | rfl | rfl | rfl | rfl | rfl | rfl | rfl | rfl | rfl | rfl | rfl | rfl | rfl | rfl | rfl | rfl | rfl | rfl | rfl | rfl | rfl | rfl | rfl : o = 1 ∨ o = 2 ∨ o = 3 ∨ o = 4 ∨ o = 5 ∨ o = 6 ∨ o = 7 ∨ o = 8 ∨ o = 9 ∨ o = 10 ∨ o = 11 ∨ o = 12 ∨ o = 13 ∨ o = 14 ∨ o = 15 ∨ o = 16 ∨ o = 17 ∨ o = 18 ∨ o = 19 ∨ o = 20 ∨ o = 21 ∨ o = 22 ∨ o = 23 ∨ o = 24 ∨ o = 25 ∨ o = 26 ∨ o = 27 ∨ o = 28 ∨ o = 29 ∨ o = 30 ∨ o = 31 ∨ o = 32 ∨ o = 33 ∨ o = 34 ∨ o = 35 ∨ o = 36 ∨ o = 37 ∨ o = 38 ∨ o = 39 := by omega
 all_goals refine ⟨fun h => ?_, fun h => ?_, by decide, by decide⟩
 all_goals first | rfl | exact absurd h (by decide)
theorem Dx {n : Nat} {o : Int} {r : jO} (h : ∀ es l, r = .ok es l → ¬ es.length < (iU o).1 ∧ (vN l [41] = true ∨ ¬ es.length < (iU o).2)) : oz n o r = r.bind fun es l => aN n [41] l fun l2 => .ok [bQ o es] l2 :=
 JJ (fun es l e => by
  obtain ⟨h1, h2⟩ := h es l e
  rintro (h3 | ⟨h3, h4⟩)
  ·
   exact h1 h3
  ·
   rcases h2 with h2 | h2
   ·
    rw [← jI l (word := [44]) (by decide) (by decide)] at h3
    cases l with
    | nil => cases h2
    | cons t r =>
     have e1 : bH t = [41] := of_decide_eq_true h2
     have e2 : bH t = [44] := of_decide_eq_true h3
     rw [e1] at e2
     cases e2
   ·
    exact h2 h4)
theorem J9 {n : Nat} {o : Int} {r : jO} (hq : (aX r).is [44] = false) (h : ∀ es l, r = .ok es l → es.length < (iU o).1 ∨ vN l [41] = false) : oz n o r = .err ((aX r).ref n) := by
 cases hr : r with
 | err k => rfl
 | ok es l =>
  have hq : vN l [44] = false := by rw [hr] at hq; exact hq
  by_cases h1 : es.length < (iU o).1
  ·
   rw [FN (fun es' l' e => by injection e with e1 e2; subst e1; exact .inl h1)]
   show oz n o ((((if vN l [44] = true then RM.at_ l.tail else .wr (dO n l)) : RM).P n .or).bind fun es2 l2 => .ok (es ++ es2) l2) = .err (dO n l)
   rw [hq]
   rfl
  ·
   have h2 : vN l [41] = false := by
    rcases h es l hr with h | h
    ·
     exact absurd h h1
    ·
     exact h
   rw [JJ (fun es' l' e => by
    injection e with e1 e2
    subst e1 e2
    rintro (h3 | ⟨h3, -⟩)
    ·
     exact h1 h3
    ·
     rw [← jI _ (word := [44]) (by decide) (by decide), hq] at h3
     cases h3)]
   show aN n [41] l (fun l2 => .ok [bQ o es] l2) = .err (dO n l)
   unfold aN
   rw [← jI l (word := [41]) (by decide) (by decide), h2]
   rfl
theorem FT {n : Nat} {o : Int} {es0 : List Ex} {tt : Tok} {rr : List Tok} (hc : bH tt = [44]) (h : es0.length < (iU o).2) : oz n o (.ok es0 (tt :: rr)) = oz n o (((RM.at_ rr).P n .or).bind fun es2 l2 => .ok (es0 ++ es2) l2) := by
 have h1 : vN (tt :: rr) [44] = true := decide_eq_true hc
 rw [FN (fun es' l' e => by
  injection e with e1 e2
  subst e1 e2
  exact .inr ⟨by rw [← jI _ (word := [44]) (by decide) (by decide)]; exact h1, h⟩)]
 show oz n o ((((if vN (tt :: rr) [44] = true then RM.at_ rr else .wr (dO n (tt :: rr))) : RM).P n .or).bind fun es2 l2 => .ok (es0 ++ es2) l2) = _
 rw [h1]
 rfl
theorem X3 {p : Nat → Prop} {B : Nat} (o : Int) (r : jO) (css : List (List Value)) (A : Option Addr) (c : Nat) (w : World) (hG : ∀ cs ∈ css, G8 cs) (hm : css.length ≤ maxLen) (ho : w.ownsRow B 27 8 (.slice A css.length c) css.length css.flatten) (hx : N9 p w r css) (hB : ∀ k, B ≤ k → p k) :
  Calls Tryz.prog 61 #[.int .i64 o, .slice A css.length c] w fun e w' => e = .returned (.agg #[.int .i64 4, .int .i64 o, .string ⟨#[]⟩, .int .i64 0, .int .i64 0, .string ⟨#[]⟩, .slice none 0 0, .slice A css.length c]) ∧ Below w.heap.size w w' ∧ RX p w' (r.bind fun es l => .ok [bQ o es] l) [.int .i64 4, .int .i64 o, .string ⟨#[]⟩, .int .i64 0, .int .i64 0, .string ⟨#[]⟩, .slice none 0 0, .slice A css.length c] := by
 refine (oO o A css.length c w).mono ?_
 rintro e w' ⟨rfl, hb⟩
 refine ⟨rfl, hb, fun es l e => ?_⟩
 cases r with
 | err k => cases e
 | ok es0 l0 =>
  injection e with e1 e2
  have h3 := hx es0 l0 rfl
  refine ⟨bQ o es0, e1.symm, ?_⟩
  have h4 := uQ (A := A) (c := c) o h3 hB (by rw [h3.len]; exact ho) (by rw [h3.len]; exact hm)
  have h5 := (h4.keep (dG.of hb)).up hb.size
  have h6 : ai (bQ o es0) none 0 A c = [.int .i64 4, .int .i64 o, .string ⟨#[]⟩, .int .i64 0, .int .i64 0, .string ⟨#[]⟩, .slice none 0 0, .slice A css.length c] := by
   rw [← h3.len]; rfl
  rw [← h6]
  exact h5
def X4 (o : Int) (s : ByteArray) (st : RM) : Prop := ∀ g w, dQ w g s st → TR w g → Calls Tryz.prog 178 #[.pointer (some ⟨g, 0, none⟩), .int .i64 o] w fun e w' => ∃ k0 o0 s0 k1 n1 s1 A1 m1 c1 A2 m2 c2, e = .returned (.agg #[.int .i64 k0, .int .i64 o0, .string s0, .int .i64 k1, .int .i64 n1, .string s1, .slice A1 m1 c1, .slice A2 m2 c2]) ∧ RR w g s (FK s.data.toList.length o st) [.int .i64 k0, .int .i64 o0, .string s0, .int .i64 k1, .int .i64 n1, .string s1, .slice A1 m1 c1, .slice A2 m2 c2] w'
theorem Na (s : ByteArray) (o : Int) (h1o : 1 ≤ o) (h2o : o ≤ 39) (st : RM) (h : ∀ st' : RM, st'.l.length ≤ st.l.length → MS 15 .or s st') : X4 o s st := by
 intro g w hp hm
 have xk := qh h
 have hlt := hp.lt
 have HM := qh hm
 have qf := qh hp
 obtain ⟨R, hR⟩ := ae (FK s.data.toList.length o st)
 have HG := qh (show R = oz s.data.toList.length o (st.P s.data.toList.length .or) by rw [← hR]; exact MF)
 have HST := qh (show st.l.length ≤ 4001 by
  cases st with
  | at_ l => exact hp.1.len
  | wr k => exact Nat.zero_le _)
 rw [hR]
 have har := abt h1o h2o
 obtain ⟨q3, hq3⟩ := ae (XC o)
 obtain ⟨m, hmo⟩ := ae (xe o)
 obtain ⟨L, hL⟩ := ae ((oG o).length)
 rw [hmo, hL] at har
 have XB := qh har
 have hL3 := har.2.2.2
 have aeB := qh (show ∀ W, Calls Tryz.prog 116 #[.int .i64 o] W fun e w' => ∃ sb : Nat, e = .returned (.agg #[.slice (some ⟨sb, 0, none⟩) L L, .int .i64 q3, .bool m]) ∧ Below W.heap.size W w' from fun W => (zu o W h1o h2o).mono fun e w' hsh => ⟨W.heap.size + 1, by rw [hsh.he, hmo, hL, hq3], hsh.hb⟩)
 clear har hq3 hmo hL h hp hm hR h1o h2o
 go_enter Tryz.func178, Tryz.ntmps178
 go_upto_region 1 with (fail)
 obtain ⟨W, hW, hkW, fV, hszW, hWs, -⟩ := iV g w
 have ny := qh (show dQ W g s st by rw [hW]; exact qf.out.alloc _)
 have oZ := qh (HM.out.kp hkW)
 rw [← hW]
 clear hW
 go_upto_region 2 with (go_at_call 116; (with_reducible refine (aeB.out W).mono ?_); rintro e w0 ⟨sb, rfl, hbs⟩; have HB0 := qh hbs; clear hbs)
 obtain ⟨W0, hW0⟩ := au (w0.alloc (.cells #[.slice (some ⟨sb, 0, none⟩) L L, .int .i64 q3, .bool m] 126 (0, 0)))
 have Zh := qh (show Kp g W W0 by rw [hW0]; exact (Kp.of HB0.out).alloc _)
 have aeC := qh (show dQ W0 g s st by rw [hW0]; exact (ny.out.below HB0.out).alloc _)
 have aeD := qh (fV.out.kp Zh.out (by omega))
 have aeE := qh (show af W0 w0.heap.size 126 #[.slice (some ⟨sb, 0, none⟩) L L, .int .i64 q3, .bool m] by rw [hW0]; exact af.new w0 _ _)
 have agq : W0.heap.size = w0.heap.size + 1 := by rw [hW0]; simp
 have hsz0 := HB0.out.size
 rw [← hW0]
 clear hW0
 go_wp2_with fail
 refine (xk.out st (Nat.le_refl _) g W0 aeC.out (HM.out.kp (hkW.trans Zh.out))).mono ?_
 rintro e w1 ⟨k0, o0, s0, k1, n1, s1, A1, m1, c1, A2, m2, c2, rfl, hs1, hk1, hx1⟩
 obtain ⟨r1, hr1⟩ := ae (st.P s.data.toList.length .or)
 have GX := qh (show (aX r1).l.length ≤ st.l.length from hr1 ▸ RM.nU)
 rw [hr1] at hs1 hx1 HG
 have qc := qh hs1
 have xn := qh hx1
 have mW := qh ((hkW.trans Zh.out).trans hk1)
 have LU := hk1.size
 have eG := qh (aeD.out.kp hk1 (by omega))
 have aeF := qh (aeE.out.kp hk1 (by omega))
 clear hs1 hx1 hk1 hr1
 go_wp2_with fail
 obtain ⟨W1, hW1⟩ := au (w1.alloc (.cells #[.int .i64 k0, .int .i64 o0, .string s0, .int .i64 k1, .int .i64 n1, .string s1, .slice A1 m1 c1, .slice A2 m2 c2] 27 (0, 0)))
 have pU := qh (show Kp g w W1 by rw [hW1]; exact mW.out.alloc _)
 have GY := qh (show dQ W1 g s (aX r1) by rw [hW1]; exact qc.out.alloc _)
 have xX := qh (show ZB W1 w.heap.size by rw [hW1]; exact eG.out.alloc _)
 have abu := qh (show af W1 w0.heap.size 126 #[.slice (some ⟨sb, 0, none⟩) L L, .int .i64 q3, .bool m] by rw [hW1]; exact aeF.out.alloc _)
 have HO1 := qh (show W1.ownsRow w1.heap.size 27 8 (.slice (some ⟨w1.heap.size, 0, none⟩) 1 1) 1 [.int .i64 k0, .int .i64 o0, .string s0, .int .i64 k1, .int .i64 n1, .string s1, .slice A1 m1 c1, .slice A2 m2 c2] by rw [hW1]; exact qB (af.new w1 _ _) (Nat.le_refl _) rfl)
 have CE := qh (show N9 (fun b => W.heap.size ≤ b ∧ b ≠ w1.heap.size) W1 r1 [[.int .i64 k0, .int .i64 o0, .string s0, .int .i64 k1, .int .i64 n1, .string s1, .slice A1 m1 c1, .slice A2 m2 c2]] by
  intro es l e
  obtain ⟨x, rfl, hx⟩ := xn.out es l e
  have h1 := hx.imp (q := fun b => W.heap.size ≤ b ∧ b ≠ w1.heap.size) (fun k hk hl => ⟨by omega, by omega⟩)
  rw [hW1]
  exact iw.one ((h1.keep (dG.of ((Below.refl _ _).alloc (Nat.le_refl _) _))).up (by simp)))
 have CG : W1.heap.size = w1.heap.size + 1 := by rw [hW1]; simp
 rw [← hW1]
 clear hW1
 go_loopw [6] (fun v wr => ∃ (r : jO) (css : List (List Value)) (A : Option Addr) (c : Nat), v = .slice A css.length c ∧ Hid (∀ cs ∈ css, G8 cs) ∧ Hid (N9 (fun b => W.heap.size ≤ b ∧ some b ≠ (Value.slice A css.length c).ownBlock) wr r css) ∧ Hid (wr.ownsRow w1.heap.size 27 8 (.slice A css.length c) css.length css.flatten) ∧ Hid (w1.heap.size ≤ wr.heap.size) ∧ Hid (dQ wr g s (aX r)) ∧ Hid (Kp g w wr) ∧ Hid (ZB wr w.heap.size) ∧ Hid (af wr w0.heap.size 126 #[.slice (some ⟨sb, 0, none⟩) L L, .int .i64 q3, .bool m]) ∧ Hid (R = oz s.data.toList.length o r) ∧ Hid (css.length + (aX r).l.length ≤ 4002 ∧ (aX r).l.length ≤ st.l.length) ∧ Hid (1 ≤ css.length) ∧ Hid (m = false → css.length ≤ L)) (fun _ wr => JB wr g)
 case atStart =>
  refine ⟨r1, [[.int .i64 k0, .int .i64 o0, .string s0, .int .i64 k1, .int .i64 n1, .string s1, .slice A1 m1 c1, .slice A2 m2 c2]], some ⟨w1.heap.size, 0, none⟩, 1, rfl, qh ?_, ?_, ?_, qh (by omega), GY, pU, xX, abu, HG, ?_, qh (Nat.le_refl _), qh (fun _ => XB.out.2.2.1)⟩
  ·
   intro cs hcs
   rw [List.mem_singleton] at hcs
   exact ⟨k0, o0, s0, k1, n1, s1, A1, m1, c1, A2, m2, c2, hcs⟩
  ·
   exact qh (CE.out.imp (fun k hk _ => ⟨hk.1, fun e => hk.2 (by injection e)⟩))
  ·
   exact qh (by simpa using HO1.out)
  ·
   exact qh ⟨by have := GX.out; have := HST.out; simp; omega, GX.out⟩
 case round =>
  obtain ⟨r, css, A, c, rfl, Vs, HE, HO, GH, xY, qI, DL, HBs, uO, qJ, Wi, Ic⟩ := hrel
  have hgw : g < wr.heap.size := xY.out.lt
  have aio := GH.out
  have BSr := HBs.out
  have sc0 : wr.cell? ⟨w0.heap.size, 0, none⟩ = some (.slice (some ⟨sb, 0, none⟩) L L) := BSr.cell 0
  have sc1 : wr.cell? ⟨w0.heap.size, 1, none⟩ = some (.int .i64 q3) := BSr.cell 1
  have sc2 : wr.cell? ⟨w0.heap.size, 2, none⟩ = some (.bool m) := BSr.cell 2
  have HLEN := qh (show ∀ es l, r = .ok es l → es.length = css.length from fun es l e => (HE.out es l e).len)
  obtain ⟨b, hb⟩ := ae ((aX r).is [41])
  have UU := qh hb
  have lh := qh (yQ xY.out [41])
  rw [show tb [41] = ⟨#[41]⟩ from rfl, hb] at lh
  have HIS := qh (show ∀ es l, r = .ok es l → vN l [41] = b from fun es l e => by rw [← hb, e]; rfl)
  have aeI := Ic
  have aip := XB
  cases m
  ·
   have HA2 := qh (XB.out.2.1 rfl)
   by_cases hn : css.length = L
   ·
    have bn : (((css.length : Nat) : Int) == ((L : Nat) : Int)) = true := by rw [hn]; exact beq_self_eq_true _
    have ZG : (css.length == L) = true := by rw [hn]; exact beq_self_eq_true _
    have eH := qh (show ∀ es l, r = .ok es l → ¬ es.length < (iU o).1 ∧ (vN l [41] = true ∨ ¬ es.length < (iU o).2) from fun es l e => by
     have h1 := HLEN.out es l e
     rw [HA2.out]
     exact ⟨by show ¬ es.length < L; omega, .inr (by show ¬ es.length < L; omega)⟩)
    clear hn hb
    cases b
    ·
     skip
     have yh := qh (wH xY.out UU.out)
     rw [show tb [41] = ⟨#[41]⟩ from rfl] at yh
     go_wp2_with fail
     refine yh.out.mono ?_
     rintro e w4 ⟨rfl, rfl⟩
     have kY := qh (kX xY.out)
     obtain ⟨pv, hpv⟩ := ae (tb ((aX r).pk s.size).1)
     obtain ⟨pa, hpa⟩ := ae (((aX r).pk s.size).2)
     rw [hpv, hpa] at kY
     have jD := qh hpa
     clear hpv hpa
     go_wp2_with fail
     refine kY.out.mono ?_
     rintro e w5 ⟨rfl, hb5⟩
     have hrf := nO (xY.out.below hb5) pv
     rw [jD.out] at hrf
     have wG := qh hrf
     have oP := qh (DL.out.below hb5 DL.out.lt)
     have sK := qh hb5
     have hsz5 := hb5.size
     clear hrf hb5
     go_wp2_with fail
     refine wG.out.mono ?_
     rintro e w6 ⟨rfl, hs6, hk6⟩
     have BR6 := oP.out.kp hk6 (by omega)
     have Vu := qh hs6
     have HK6 := qh hk6
     clear hs6 hk6
     obtain ⟨aQ, eX, aS, eY, aT, fD, aU, fE, aY, jR, aZ, jS, bu, jT, bz, jU⟩ := af.z8 BR6
     go_wp2_with fail
     refine bodyPost_ret (v := .agg #[.int .i64 0, .int .i64 0, .string ⟨#[]⟩, .int .i64 0, .int .i64 0, .string ⟨#[]⟩, .slice none 0 0, .slice none 0 0]) (by simp [results, Tryz.results178, go_sem, aQ, aS, aT, aU, aY, aZ, bu, bz]) rfl ⟨0, 0, ⟨#[]⟩, 0, 0, ⟨#[]⟩, none, 0, 0, none, 0, 0, rfl, ?_⟩
     have hend : R = .err ((aX r).ref s.size) := by
      rw [uO.out, Dx eH.out]
      cases hr : r with
      | err k => rfl
      | ok es l =>
       have h1 : vN l [41] = false := by have := UU.out; rw [hr] at this; exact this
       show aN s.data.toList.length [41] l (fun l2 => .ok [bQ o es] l2) = .err (dO s.size l)
       unfold aN
       rw [← jI l (word := [41]) (by decide) (by decide), h1]
       rfl
     rw [hend]
     exact RR.ret (L := W.heap.size) Vu.out ((qI.out.trans (Kp.of sK.out)).trans HK6.out) (fun es l e => by cases e) hWs hlt _ _ _ _ _ _ _ _
    ·
     rw [if_pos rfl] at lh
     go_wp2_with fail
     refine lh.out.mono ?_
     rintro e w4 ⟨rfl, hs4, hk4⟩
     have hgW : g < w1.heap.size := by omega
     have Jz := qh (nN HO.out hk4 hgW)
     have dL := qh (DL.out.kp hk4 (by omega))
     have Qe := qh ((HE.out.keep (hk4.stay (fun k hk => by omega))).imp (q := fun b => W.heap.size ≤ b) (fun k hk _ => hk.1))
     have iK := qh hk4
     have pX := qh hs4
     have vW := hk4.size
     have hm0 : css.length ≤ 4002 := by have := qJ.out.1; omega
     clear hs4 hk4
     go_wp2_with fail
     refine (X3 (p := fun b => W.heap.size ≤ b) o r css A c w4 Vs.out (by unfold maxLen; omega) Jz.out Qe.out (fun k hk => by omega)).mono ?_
     rintro e w5 ⟨rfl, hb5, hx5⟩
     have wE := dL.out.below hb5 dL.out.lt
     have tX := qh hx5
     have sK := qh hb5
     clear hx5 hb5
     obtain ⟨aQ, eX, aS, eY, aT, fD, aU, fE, aY, jR, aZ, jS, bu, jT, bz, jU⟩ := af.z8 wE
     go_wp2_with fail
     refine bodyPost_ret (v := .agg #[.int .i64 4, .int .i64 o, .string ⟨#[]⟩, .int .i64 0, .int .i64 0, .string ⟨#[]⟩, .slice none 0 0, .slice A css.length c]) (by simp [results, Tryz.results178, go_sem, aQ, aS, aT, aU, aY, aZ, bu, bz]) rfl ⟨4, o, ⟨#[]⟩, 0, 0, ⟨#[]⟩, none, 0, 0, A, css.length, c, rfl, ?_⟩
     have hend : R = r.bind fun es l => aN s.data.toList.length [41] l fun l2 => .ok [bQ o es] l2 := uO.out.trans (Dx eH.out)
     rw [hend]
     have Dw : (r.bind fun es l => aN s.data.toList.length [41] l fun l2 => .ok [bQ o es] l2) = ((r.bind fun es l => .ok [bQ o es] l).bind fun es l => aN s.data.toList.length [41] l fun l2 => .ok es l2) := by cases r <;> rfl
     refine RR.ret (L := W.heap.size) ?_ ((qI.out.trans iK.out).trans (Kp.of sK.out)) ?_ hWs hlt _ _ _ _ _ _ _ _
     ·
      rw [zU (f := fun es => [bQ o es]) (by decide) (by decide)]
      show dQ w5 g s (if (aX r).is [41] = true then (aX r).tl else .wr ((aX r).ref s.data.toList.length))
      rw [UU.out, if_pos rfl]
      exact pX.out.below sK.out
     ·
      rw [Dw]
      exact tX.out.Oj
   ·
    have bn : (((css.length : Nat) : Int) == ((L : Nat) : Int)) = false := by rw [beq_eq_false_iff_ne]; omega
    have ZG : (css.length == L) = false := by rw [beq_eq_false_iff_ne]; exact hn
    have abv : css.length < L := by have := aeI.out rfl; omega
    have Zi := qh abv
    have Zj := qh (show ∀ es l, r = .ok es l → es.length < (iU o).1 ∨ vN l [41] = false from fun es l e => .inl (by rw [HA2.out, HLEN.out es l e]; exact Zi.out))
    have x9 := qh (show css.length < (iU o).2 by rw [HA2.out]; exact Zi.out)
    clear hn hb lh abv
    obtain ⟨d, b2⟩ := ae (decide ((2 : Int) ≤ ((css.length : Nat) : Int)))
    cases d
    all_goals first
     | have b2' := of_decide_eq_true b2
     | have b2' := of_decide_eq_false b2
    all_goals
     obtain ⟨q, hq⟩ := ae ((aX r).is [44])
     have MP := qh (yR xY.out [44])
     rw [show tb [44] = ⟨#[44]⟩ from rfl, hq] at MP
     have HQ := qh hq
     clear hq
     go_wp2_with fail
     refine MP.out.mono ?_
     rintro e w4 ⟨rfl, hs4, hk4⟩
     have iK := qh hk4
     have hgW : g < w1.heap.size := by omega
     have Jz := qh (nN HO.out hk4 hgW)
     have dL := qh (DL.out.kp hk4 (by omega))
     have xw := qh (HBs.out.kp hk4 (by omega))
     have Qe := qh (HE.out.keep (hk4.stay (fun k hk => by omega)))
     have vW := hk4.size
     cases q
     ·
      rw [if_neg (by decide)] at hs4
      have g2 : w4.cell? ⟨g, 2, none⟩ = some (.bool true) := af.cell (show DN w4 g s.size ((aX r).ref s.size) from hs4) 2
      have pX := qh hs4
      have FC := dL.out
      clear hs4 hk4
      obtain ⟨aQ, eX, aS, eY, aT, fD, aU, fE, aY, jR, aZ, jS, bu, jT, bz, jU⟩ := af.z8 FC
      go_wp2_with fail
      refine bodyPost_ret (v := .agg #[.int .i64 0, .int .i64 0, .string ⟨#[]⟩, .int .i64 0, .int .i64 0, .string ⟨#[]⟩, .slice none 0 0, .slice none 0 0]) (by simp [results, Tryz.results178, go_sem, aQ, aS, aT, aU, aY, aZ, bu, bz]) rfl ⟨0, 0, ⟨#[]⟩, 0, 0, ⟨#[]⟩, none, 0, 0, none, 0, 0, rfl, ?_⟩
      have hend : R = .err ((aX r).ref s.size) := uO.out.trans (J9 HQ.out Zj.out)
      rw [hend]
      exact RR.ret (L := W.heap.size) pX.out (qI.out.trans iK.out) (fun es l e => by cases e) hWs hlt _ _ _ _ _ _ _ _
     ·
      rw [if_pos rfl] at hs4
      have pX := qh hs4
      obtain ⟨tt, rr, hst, hrt⟩ := RM.yP HQ.out
      obtain ⟨es0, hy⟩ : ∃ es, r = .ok es (tt :: rr) := by
       cases hr : r with
       | err k => rw [hr] at hst; cases hst
       | ok es l =>
        rw [hr] at hst
        injection hst with hst
        exact ⟨es, by rw [hst]⟩
      have UW : dQ w4 g s (.at_ rr) := by rw [hst] at hs4; exact hs4
      obtain ⟨gA, gc, gB, -⟩ := UW.1.ex
      have g2 : w4.cell? ⟨g, 2, none⟩ = some (.bool false) := gB.cell 2
      obtain ⟨r2, hr2⟩ := ae ((aX r).tl.P s.data.toList.length .or)
      have fO := qh (show (aX r2).l.length < (aX r).l.length by
       have h1 := RM.nU (st := (aX r).tl) (n := s.data.toList.length) (nt := .or)
       rw [hr2] at h1
       have h2 := RM.qC hst
       omega)
      have WN := qh (Qe.out es0 _ hy)
      have hel : es0.length = css.length := WN.out.len
      have rF := qh (show R = oz s.data.toList.length o (r2.bind fun es l => .ok (es0 ++ es) l) by
       have e1 : (aX r).tl = .at_ rr := by rw [hst]; rfl
       rw [uO.out, ← hr2, e1, hy]
       exact FT hrt (by rw [hel]; exact x9.out))
      have HC2 := qh (fun W' hp hm => hr2 ▸ xk.out (aX r).tl (by have h1 := RM.qC hst; have h2 := qJ.out.2; omega) g W' hp hm)
      have zQ := qh hy
      clear hs4 UW gB hst hy hr2 hrt hel
      go_wp2_with fail
      refine (HC2.out w4 pX.out (HM.out.kp (qI.out.trans iK.out))).mono ?_
      rintro e w5 ⟨lU, lV, lW, lX, lY, lZ, l7, l9, mf, mg, mi, mr, rfl, hs5, hk5, hx5⟩
      have rq := qh ((qI.out.trans iK.out).trans hk5)
      have D5 := qh hk5
      have Eh := qh hs5
      have tX := qh hx5
      have Jn := qh (nN Jz.out hk5 hgW)
      have oP := qh (dL.out.kp hk5 (by omega))
      have Zk := qh (xw.out.kp hk5 (by omega))
      have hsz5 := hk5.size
      have hb5 : w1.heap.size ≤ w5.heap.size := by have := GH.out; omega
      have hm0 : css.length ≤ 4002 := by have := qJ.out.1; omega
      obtain ⟨i0, hi0, hz0, hz1, hz2⟩ := info_parts BM
      clear hs5 hx5 hk5 g2
      go_wp2_with (at_builtin; refine wpList_append_lies _ rfl _ _ 25 rfl w1.heap.size 27 i0 (.agg #[.int .i64 0, .int .i64 0, .string ⟨#[]⟩, .int .i64 0, .int .i64 0, .string ⟨#[]⟩, .slice none 0 0, .slice none 0 0]) 8 112 Tryz.underlying25 hi0 hz0 hz1 hz2 rfl (by decide) _ _ _ rfl (Jn.out.alloc _) ⟨w5.heap.size, 0, none⟩ 1 1 [.int .i64 lU, .int .i64 lV, .string lW, .int .i64 lX, .int .i64 lY, .string lZ, .slice l7 l9 mf, .slice mg mi mr] rfl rfl ?e11 ?e12 (by decide) ?e13 ?e14 ?e15 _ rfl ?_)
      case e11 => exact World.news_of_block (af.new w5 27 _)
      case e12 => intro u hu; simp only [List.mem_cons, List.not_mem_nil, or_false] at hu; rcases hu with rfl | rfl | rfl | rfl | rfl | rfl | rfl | rfl <;> rfl
      case e13 => unfold maxLen; omega
      case e14 => omega
      case e15 => simp; omega
      intro g7 cap w7 ig kC kV ru
      go_wp2_with fail
      have hob : ∀ k, (Value.slice A css.length c).ownBlock = some k → w1.heap.size ≤ k ∧ k < wr.heap.size := fun k hk => HO.out.lt k hk
      have xW := qh hob
      have GZ := qh (show dQ w7 g s (aX (r2.bind fun es l => .ok (es0 ++ es) l)) by
       rw [dH (f := fun es => es0 ++ es)]
       have hs7 := kC.size
       refine Eh.out.far (by simp at hs7; omega) (fun k hk => ?_)
       have hk5 : k < w5.heap.size := by have := Eh.out.lt; omega
       exact (kC.block k (by simp; omega) (fun e => by have := (xW.out k e.symm).1; omega)).trans (Below.heap_alloc w5 _ k hk5))
      have FD := qh (show (aX (r2.bind fun es l => .ok (es0 ++ es) l)).l.length < (aX r).l.length by
       rw [dH (f := fun es => es0 ++ es)]
       exact fO.out)
      go_roundw
      case rel =>
       have hs7 := kC.size
       refine ⟨r2.bind fun es l => .ok (es0 ++ es) l, css ++ [([.int .i64 lU, .int .i64 lV, .string lW, .int .i64 lX, .int .i64 lY, .string lZ, .slice l7 l9 mf, .slice mg mi mr] : List Value)], some ⟨g7, 0, none⟩, cap, by simp, ?_, ?_, ?_, ?_, GZ, ?_, ?_, ?_, rF, ?_, ?_, ?_⟩
       ·
        exact qh (fun cs hcs => by
         rcases List.mem_append.1 hcs with h | h
         ·
          exact Vs.out cs h
         ·
          rw [List.mem_singleton] at h
          exact ⟨lU, lV, lW, lX, lY, lZ, l7, l9, mf, mg, mi, mr, h⟩)
       ·
        refine qh (fun es l e => ?_)
        cases hr2 : r2 with
        | err k => rw [hr2] at e; cases e
        | ok es2 l2 =>
         rw [hr2] at e
         injection e with e1 e2
         obtain ⟨y, hy1, hy2⟩ := tX.out es2 l2 hr2
         subst hy1
         rw [← e1]
         have h1 := WN.out.imp (q := fun b => (W.heap.size ≤ b ∧ some b ≠ (Value.slice A css.length c).ownBlock) ∧ some b ≠ some g7 ∧ b < w4.heap.size) (fun k hk hl => ⟨hk, fun e => by
          injection e with e
          rcases kV with h | h
          ·
           exact hk.2 (by rw [h, e])
          ·
           try simp at h
           omega, hl⟩)
         have h2 := (h1.keep (w' := w7) ⟨by simp at hs7; omega, fun k hk hl => by
          rw [kC.block k (by simp; omega) hk.1.2, Below.heap_alloc w5 _ k (by omega)]
          exact D5.out.block k hl (fun e => by injection e with e; have := hk.1.1; omega)⟩).imp (q := fun b => W.heap.size ≤ b ∧ some b ≠ (Value.slice (some ⟨g7, 0, none⟩) (css ++ [([.int .i64 lU, .int .i64 lV, .string lW, .int .i64 lX, .int .i64 lY, .string lZ, .slice l7 l9 mf, .slice mg mi mr] : List Value)]).length cap).ownBlock) (fun k hk _ => ⟨hk.1.1, hk.2.1⟩)
         have hz1 := GH.out
         have h3 := hy2.imp (q := fun b => b < w5.heap.size ∧ (W.heap.size ≤ b ∧ some b ≠ (Value.slice (some ⟨g7, 0, none⟩) (css ++ [([.int .i64 lU, .int .i64 lV, .string lW, .int .i64 lX, .int .i64 lY, .string lZ, .slice l7 l9 mf, .slice mg mi mr] : List Value)]).length cap).ownBlock) ∧ some b ≠ (Value.slice A css.length c).ownBlock) (fun k hk hl => ⟨hl, ⟨by omega, fun e => by
          have e' : k = g7 := by injection e
          rcases kV with h | h
          ·
           have := (xW.out g7 h).2
           omega
          ·
           try simp at h
           omega⟩, fun e => by
          have := (xW.out k e.symm).2
          omega⟩)
         have h4 := ((h3.keep (w' := w7) ⟨by simp at hs7; omega, fun k hk hl => by
          rw [kC.block k (by simp; omega) hk.2.2, Below.heap_alloc w5 _ k hl]⟩).up (B' := w7.heap.size) (by simp at hs7; omega)).imp (q := fun b => W.heap.size ≤ b ∧ some b ≠ (Value.slice (some ⟨g7, 0, none⟩) (css ++ [([.int .i64 lU, .int .i64 lV, .string lW, .int .i64 lX, .int .i64 lY, .string lZ, .slice l7 l9 mf, .slice mg mi mr] : List Value)]).length cap).ownBlock) (fun k hk _ => hk.2.1)
         exact h2.snoc h4
       ·
        have e1 : (css ++ [([.int .i64 lU, .int .i64 lV, .string lW, .int .i64 lX, .int .i64 lY, .string lZ, .slice l7 l9 mf, .slice mg mi mr] : List Value)]).length = css.length + 1 := by simp
        have e2 : (css ++ [([.int .i64 lU, .int .i64 lV, .string lW, .int .i64 lX, .int .i64 lY, .string lZ, .slice l7 l9 mf, .slice mg mi mr] : List Value)]).flatten = css.flatten ++ ([.int .i64 lU, .int .i64 lV, .string lW, .int .i64 lX, .int .i64 lY, .string lZ, .slice l7 l9 mf, .slice mg mi mr] : List Value) := by simp
        rw [e1, e2]
        exact qh ig
       ·
        exact qh (by simp at hs7; omega)
       ·
        exact qh ((rq.out.alloc _).grown kC (fun k hk => by
         have h1 := (xW.out k hk).1
         omega))
       ·
        refine qh ?_
        have h1 := oP.out.alloc (.cells #[.int .i64 lU, .int .i64 lV, .string lW, .int .i64 lX, .int .i64 lY, .string lZ, .slice l7 l9 mf, .slice mg mi mr] 27 (0, 0))
        have h2 := kC.block w.heap.size h1.lt (fun e => by have := (xW.out _ e.symm).1; omega)
        (try unfold ZB); unfold af
        rw [h2]
        exact h1
       ·
        refine qh ?_
        have h1 := Zk.out.alloc (.cells #[.int .i64 lU, .int .i64 lV, .string lW, .int .i64 lX, .int .i64 lY, .string lZ, .slice l7 l9 mf, .slice mg mi mr] 27 (0, 0))
        have h2 := kC.block w0.heap.size h1.lt (fun e => by have := (xW.out _ e.symm).1; omega)
        (try unfold ZB); unfold af
        rw [h2]
        exact h1
       ·
        refine qh ?_
        have h1 := FD.out
        have h2 := qJ.out
        refine ⟨?_, by omega⟩
        rw [List.length_append, List.length_singleton]
        omega
       ·
        exact qh (by simp)
       ·
        exact qh (fun _ => by rw [List.length_append, List.length_singleton]; exact Zi.out)
      case measure =>
       have h1 := GZ.out.len
       have h2 := xY.out.len
       have h3 := FD.out
       rw [← h1, ← h2] at h3
       exact h3
  ·
   have HA2 := qh (XB.out.1 rfl)
   have x9 := qh (show css.length < (iU o).2 by rw [HA2.out]; have := qJ.out.1; show css.length < 1099511627776; omega)
   obtain ⟨e, ZG⟩ := ae ((css.length == L))
   have bn : (((css.length : Nat) : Int) == ((L : Nat) : Int)) = e := by rw [← ZG, Bool.eq_iff_iff]; simp; omega
   by_cases hk : 2 ≤ css.length ∧ b = true
   ·
    obtain ⟨h2, rfl⟩ := hk
    have b2 : decide ((2 : Int) ≤ ((css.length : Nat) : Int)) = true := by simp; omega
    have b2' : (2 : Int) ≤ ((css.length : Nat) : Int) := by omega
    rw [if_pos rfl] at lh
    have HL2 := qh h2
    have eH := qh (show ∀ es l, r = .ok es l → ¬ es.length < (iU o).1 ∧ (vN l [41] = true ∨ ¬ es.length < (iU o).2) from fun es l e => by
     have h1 := HLEN.out es l e
     have h2 := HL2.out
     rw [HA2.out]
     exact ⟨by show ¬ es.length < 2; omega, .inl (HIS.out es l e)⟩)
    clear h2 hb
    cases e
    all_goals
     go_wp2_with fail
     refine lh.out.mono ?_
     rintro e w4 ⟨rfl, hs4, hk4⟩
     have hgW : g < w1.heap.size := by omega
     have Jz := qh (nN HO.out hk4 hgW)
     have dL := qh (DL.out.kp hk4 (by omega))
     have Qe := qh ((HE.out.keep (hk4.stay (fun k hk => by omega))).imp (q := fun b => W.heap.size ≤ b) (fun k hk _ => hk.1))
     have iK := qh hk4
     have pX := qh hs4
     have vW := hk4.size
     have hm0 : css.length ≤ 4002 := by have := qJ.out.1; omega
     clear hs4 hk4
     go_wp2_with fail
     refine (X3 (p := fun b => W.heap.size ≤ b) o r css A c w4 Vs.out (by unfold maxLen; omega) Jz.out Qe.out (fun k hk => by omega)).mono ?_
     rintro e w5 ⟨rfl, hb5, hx5⟩
     have wE := dL.out.below hb5 dL.out.lt
     have tX := qh hx5
     have sK := qh hb5
     clear hx5 hb5
     obtain ⟨aQ, eX, aS, eY, aT, fD, aU, fE, aY, jR, aZ, jS, bu, jT, bz, jU⟩ := af.z8 wE
     go_wp2_with fail
     refine bodyPost_ret (v := .agg #[.int .i64 4, .int .i64 o, .string ⟨#[]⟩, .int .i64 0, .int .i64 0, .string ⟨#[]⟩, .slice none 0 0, .slice A css.length c]) (by simp [results, Tryz.results178, go_sem, aQ, aS, aT, aU, aY, aZ, bu, bz]) rfl ⟨4, o, ⟨#[]⟩, 0, 0, ⟨#[]⟩, none, 0, 0, A, css.length, c, rfl, ?_⟩
     have hend : R = r.bind fun es l => aN s.data.toList.length [41] l fun l2 => .ok [bQ o es] l2 := uO.out.trans (Dx eH.out)
     rw [hend]
     have Dw : (r.bind fun es l => aN s.data.toList.length [41] l fun l2 => .ok [bQ o es] l2) = ((r.bind fun es l => .ok [bQ o es] l).bind fun es l => aN s.data.toList.length [41] l fun l2 => .ok es l2) := by cases r <;> rfl
     refine RR.ret (L := W.heap.size) ?_ ((qI.out.trans iK.out).trans (Kp.of sK.out)) ?_ hWs hlt _ _ _ _ _ _ _ _
     ·
      rw [zU (f := fun es => [bQ o es]) (by decide) (by decide)]
      show dQ w5 g s (if (aX r).is [41] = true then (aX r).tl else .wr ((aX r).ref s.data.toList.length))
      rw [UU.out, if_pos rfl]
      exact pX.out.below sK.out
     ·
      rw [Dw]
      exact tX.out.Oj
   ·
    have Zj := qh (show ∀ es l, r = .ok es l → es.length < (iU o).1 ∨ vN l [41] = false from fun es l e => by
     by_cases h2 : 2 ≤ css.length
     ·
      refine .inr (Bool.eq_false_iff.2 fun q => hk ⟨h2, (HIS.out es l e).symm.trans q⟩)
     ·
      exact .inl (by rw [HA2.out, HLEN.out es l e]; show css.length < 2; omega))
    have hbf : 2 ≤ css.length → b = false := fun h2 => Bool.eq_false_iff.2 fun q => hk ⟨h2, q⟩
    have yh := qh (show b = false → Calls Tryz.prog 37 #[.pointer (some ⟨g, 0, none⟩), .string ⟨#[41]⟩] wr fun e w' => e = .returned (.bool false) ∧ wr = w' from fun h => wH xY.out (word := [41]) (UU.out.trans h))
    clear hk lh HIS
    obtain ⟨d, b2⟩ := ae (decide ((2 : Int) ≤ ((css.length : Nat) : Int)))
    cases d
    case' false => have b2' := of_decide_eq_false b2
    case' true =>
     have b2' := of_decide_eq_true b2
     obtain rfl := hbf (by omega)
    all_goals
     clear hb hbf
     cases e
    all_goals
     go_upto_region 8 with (go_at_call 37; (with_reducible refine (yh.out rfl).mono ?_); rintro e w3 ⟨rfl, rfl⟩)
     obtain ⟨q, hq⟩ := ae ((aX r).is [44])
     have MP := qh (yR xY.out [44])
     rw [show tb [44] = ⟨#[44]⟩ from rfl, hq] at MP
     have HQ := qh hq
     clear hq
     go_wp2_with fail
     refine MP.out.mono ?_
     rintro e w4 ⟨rfl, hs4, hk4⟩
     have iK := qh hk4
     have hgW : g < w1.heap.size := by omega
     have Jz := qh (nN HO.out hk4 hgW)
     have dL := qh (DL.out.kp hk4 (by omega))
     have xw := qh (HBs.out.kp hk4 (by omega))
     have Qe := qh (HE.out.keep (hk4.stay (fun k hk => by omega)))
     have vW := hk4.size
     cases q
     ·
      rw [if_neg (by decide)] at hs4
      have g2 : w4.cell? ⟨g, 2, none⟩ = some (.bool true) := af.cell (show DN w4 g s.size ((aX r).ref s.size) from hs4) 2
      have pX := qh hs4
      have FC := dL.out
      clear hs4 hk4
      obtain ⟨aQ, eX, aS, eY, aT, fD, aU, fE, aY, jR, aZ, jS, bu, jT, bz, jU⟩ := af.z8 FC
      go_wp2_with fail
      refine bodyPost_ret (v := .agg #[.int .i64 0, .int .i64 0, .string ⟨#[]⟩, .int .i64 0, .int .i64 0, .string ⟨#[]⟩, .slice none 0 0, .slice none 0 0]) (by simp [results, Tryz.results178, go_sem, aQ, aS, aT, aU, aY, aZ, bu, bz]) rfl ⟨0, 0, ⟨#[]⟩, 0, 0, ⟨#[]⟩, none, 0, 0, none, 0, 0, rfl, ?_⟩
      have hend : R = .err ((aX r).ref s.size) := uO.out.trans (J9 HQ.out Zj.out)
      rw [hend]
      exact RR.ret (L := W.heap.size) pX.out (qI.out.trans iK.out) (fun es l e => by cases e) hWs hlt _ _ _ _ _ _ _ _
     ·
      rw [if_pos rfl] at hs4
      have pX := qh hs4
      obtain ⟨tt, rr, hst, hrt⟩ := RM.yP HQ.out
      obtain ⟨es0, hy⟩ : ∃ es, r = .ok es (tt :: rr) := by
       cases hr : r with
       | err k => rw [hr] at hst; cases hst
       | ok es l =>
        rw [hr] at hst
        injection hst with hst
        exact ⟨es, by rw [hst]⟩
      have UW : dQ w4 g s (.at_ rr) := by rw [hst] at hs4; exact hs4
      obtain ⟨gA, gc, gB, -⟩ := UW.1.ex
      have g2 : w4.cell? ⟨g, 2, none⟩ = some (.bool false) := gB.cell 2
      obtain ⟨r2, hr2⟩ := ae ((aX r).tl.P s.data.toList.length .or)
      have fO := qh (show (aX r2).l.length < (aX r).l.length by
       have h1 := RM.nU (st := (aX r).tl) (n := s.data.toList.length) (nt := .or)
       rw [hr2] at h1
       have h2 := RM.qC hst
       omega)
      have WN := qh (Qe.out es0 _ hy)
      have hel : es0.length = css.length := WN.out.len
      have rF := qh (show R = oz s.data.toList.length o (r2.bind fun es l => .ok (es0 ++ es) l) by
       have e1 : (aX r).tl = .at_ rr := by rw [hst]; rfl
       rw [uO.out, ← hr2, e1, hy]
       exact FT hrt (by rw [hel]; exact x9.out))
      have HC2 := qh (fun W' hp hm => hr2 ▸ xk.out (aX r).tl (by have h1 := RM.qC hst; have h2 := qJ.out.2; omega) g W' hp hm)
      have zQ := qh hy
      clear hs4 UW gB hst hy hr2 hrt hel
      go_wp2_with fail
      refine (HC2.out w4 pX.out (HM.out.kp (qI.out.trans iK.out))).mono ?_
      rintro e w5 ⟨lU, lV, lW, lX, lY, lZ, l7, l9, mf, mg, mi, mr, rfl, hs5, hk5, hx5⟩
      have rq := qh ((qI.out.trans iK.out).trans hk5)
      have D5 := qh hk5
      have Eh := qh hs5
      have tX := qh hx5
      have Jn := qh (nN Jz.out hk5 hgW)
      have oP := qh (dL.out.kp hk5 (by omega))
      have Zk := qh (xw.out.kp hk5 (by omega))
      have hsz5 := hk5.size
      have hb5 : w1.heap.size ≤ w5.heap.size := by have := GH.out; omega
      have hm0 : css.length ≤ 4002 := by have := qJ.out.1; omega
      obtain ⟨i0, hi0, hz0, hz1, hz2⟩ := info_parts BM
      clear hs5 hx5 hk5 g2
      go_wp2_with (at_builtin; refine wpList_append_lies _ rfl _ _ 25 rfl w1.heap.size 27 i0 (.agg #[.int .i64 0, .int .i64 0, .string ⟨#[]⟩, .int .i64 0, .int .i64 0, .string ⟨#[]⟩, .slice none 0 0, .slice none 0 0]) 8 112 Tryz.underlying25 hi0 hz0 hz1 hz2 rfl (by decide) _ _ _ rfl (Jn.out.alloc _) ⟨w5.heap.size, 0, none⟩ 1 1 [.int .i64 lU, .int .i64 lV, .string lW, .int .i64 lX, .int .i64 lY, .string lZ, .slice l7 l9 mf, .slice mg mi mr] rfl rfl ?e21 ?e22 (by decide) ?e23 ?e24 ?e25 _ rfl ?_)
      case e21 => exact World.news_of_block (af.new w5 27 _)
      case e22 => intro u hu; simp only [List.mem_cons, List.not_mem_nil, or_false] at hu; rcases hu with rfl | rfl | rfl | rfl | rfl | rfl | rfl | rfl <;> rfl
      case e23 => unfold maxLen; omega
      case e24 => omega
      case e25 => simp; omega
      intro g7 cap w7 ig kC kV ru
      go_wp2_with fail
      have hob : ∀ k, (Value.slice A css.length c).ownBlock = some k → w1.heap.size ≤ k ∧ k < wr.heap.size := fun k hk => HO.out.lt k hk
      have xW := qh hob
      have GZ := qh (show dQ w7 g s (aX (r2.bind fun es l => .ok (es0 ++ es) l)) by
       rw [dH (f := fun es => es0 ++ es)]
       have hs7 := kC.size
       refine Eh.out.far (by simp at hs7; omega) (fun k hk => ?_)
       have hk5 : k < w5.heap.size := by have := Eh.out.lt; omega
       exact (kC.block k (by simp; omega) (fun e => by have := (xW.out k e.symm).1; omega)).trans (Below.heap_alloc w5 _ k hk5))
      have FD := qh (show (aX (r2.bind fun es l => .ok (es0 ++ es) l)).l.length < (aX r).l.length by
       rw [dH (f := fun es => es0 ++ es)]
       exact fO.out)
      go_roundw
      case rel =>
       have hs7 := kC.size
       refine ⟨r2.bind fun es l => .ok (es0 ++ es) l, css ++ [([.int .i64 lU, .int .i64 lV, .string lW, .int .i64 lX, .int .i64 lY, .string lZ, .slice l7 l9 mf, .slice mg mi mr] : List Value)], some ⟨g7, 0, none⟩, cap, by simp, ?_, ?_, ?_, ?_, GZ, ?_, ?_, ?_, rF, ?_, ?_, ?_⟩
       ·
        exact qh (fun cs hcs => by
         rcases List.mem_append.1 hcs with h | h
         ·
          exact Vs.out cs h
         ·
          rw [List.mem_singleton] at h
          exact ⟨lU, lV, lW, lX, lY, lZ, l7, l9, mf, mg, mi, mr, h⟩)
       ·
        refine qh (fun es l e => ?_)
        cases hr2 : r2 with
        | err k => rw [hr2] at e; cases e
        | ok es2 l2 =>
         rw [hr2] at e
         injection e with e1 e2
         obtain ⟨y, hy1, hy2⟩ := tX.out es2 l2 hr2
         subst hy1
         rw [← e1]
         have h1 := WN.out.imp (q := fun b => (W.heap.size ≤ b ∧ some b ≠ (Value.slice A css.length c).ownBlock) ∧ some b ≠ some g7 ∧ b < w4.heap.size) (fun k hk hl => ⟨hk, fun e => by
          injection e with e
          rcases kV with h | h
          ·
           exact hk.2 (by rw [h, e])
          ·
           try simp at h
           omega, hl⟩)
         have h2 := (h1.keep (w' := w7) ⟨by simp at hs7; omega, fun k hk hl => by
          rw [kC.block k (by simp; omega) hk.1.2, Below.heap_alloc w5 _ k (by omega)]
          exact D5.out.block k hl (fun e => by injection e with e; have := hk.1.1; omega)⟩).imp (q := fun b => W.heap.size ≤ b ∧ some b ≠ (Value.slice (some ⟨g7, 0, none⟩) (css ++ [([.int .i64 lU, .int .i64 lV, .string lW, .int .i64 lX, .int .i64 lY, .string lZ, .slice l7 l9 mf, .slice mg mi mr] : List Value)]).length cap).ownBlock) (fun k hk _ => ⟨hk.1.1, hk.2.1⟩)
         have hz1 := GH.out
         have h3 := hy2.imp (q := fun b => b < w5.heap.size ∧ (W.heap.size ≤ b ∧ some b ≠ (Value.slice (some ⟨g7, 0, none⟩) (css ++ [([.int .i64 lU, .int .i64 lV, .string lW, .int .i64 lX, .int .i64 lY, .string lZ, .slice l7 l9 mf, .slice mg mi mr] : List Value)]).length cap).ownBlock) ∧ some b ≠ (Value.slice A css.length c).ownBlock) (fun k hk hl => ⟨hl, ⟨by omega, fun e => by
          have e' : k = g7 := by injection e
          rcases kV with h | h
          ·
           have := (xW.out g7 h).2
           omega
          ·
           try simp at h
           omega⟩, fun e => by
          have := (xW.out k e.symm).2
          omega⟩)
         have h4 := ((h3.keep (w' := w7) ⟨by simp at hs7; omega, fun k hk hl => by
          rw [kC.block k (by simp; omega) hk.2.2, Below.heap_alloc w5 _ k hl]⟩).up (B' := w7.heap.size) (by simp at hs7; omega)).imp (q := fun b => W.heap.size ≤ b ∧ some b ≠ (Value.slice (some ⟨g7, 0, none⟩) (css ++ [([.int .i64 lU, .int .i64 lV, .string lW, .int .i64 lX, .int .i64 lY, .string lZ, .slice l7 l9 mf, .slice mg mi mr] : List Value)]).length cap).ownBlock) (fun k hk _ => hk.2.1)
         exact h2.snoc h4
       ·
        have e1 : (css ++ [([.int .i64 lU, .int .i64 lV, .string lW, .int .i64 lX, .int .i64 lY, .string lZ, .slice l7 l9 mf, .slice mg mi mr] : List Value)]).length = css.length + 1 := by simp
        have e2 : (css ++ [([.int .i64 lU, .int .i64 lV, .string lW, .int .i64 lX, .int .i64 lY, .string lZ, .slice l7 l9 mf, .slice mg mi mr] : List Value)]).flatten = css.flatten ++ ([.int .i64 lU, .int .i64 lV, .string lW, .int .i64 lX, .int .i64 lY, .string lZ, .slice l7 l9 mf, .slice mg mi mr] : List Value) := by simp
        rw [e1, e2]
        exact qh ig
       ·
        exact qh (by simp at hs7; omega)
       ·
        exact qh ((rq.out.alloc _).grown kC (fun k hk => by
         have h1 := (xW.out k hk).1
         omega))
       ·
        refine qh ?_
        have h1 := oP.out.alloc (.cells #[.int .i64 lU, .int .i64 lV, .string lW, .int .i64 lX, .int .i64 lY, .string lZ, .slice l7 l9 mf, .slice mg mi mr] 27 (0, 0))
        have h2 := kC.block w.heap.size h1.lt (fun e => by have := (xW.out _ e.symm).1; omega)
        (try unfold ZB); unfold af
        rw [h2]
        exact h1
       ·
        refine qh ?_
        have h1 := Zk.out.alloc (.cells #[.int .i64 lU, .int .i64 lV, .string lW, .int .i64 lX, .int .i64 lY, .string lZ, .slice l7 l9 mf, .slice mg mi mr] 27 (0, 0))
        have h2 := kC.block w0.heap.size h1.lt (fun e => by have := (xW.out _ e.symm).1; omega)
        (try unfold ZB); unfold af
        rw [h2]
        exact h1
       ·
        refine qh ?_
        have h1 := FD.out
        have h2 := qJ.out
        refine ⟨?_, by omega⟩
        rw [List.length_append, List.length_singleton]
        omega
       ·
        exact qh (by simp)
       ·
        exact qh (fun h => absurd h (by decide))
      case measure =>
       have h1 := GZ.out.len
       have h2 := xY.out.len
       have h3 := FD.out
       rw [← h1, ← h2] at h3
       exact h3
end Go.Proofs.YtobanldeicclmaaGreatDoor
