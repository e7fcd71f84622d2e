/- Lemmas for the claim: walks and plain laws. -/
import Derived.Test.YtobanldeicclmaaGreatDoorZ21
import Derived.Test.YtobanldeicclmaaGreatDoorZ17
import Derived.Test.YtobanldeicclmaaGreatDoorZ6
import Derived.Test.YtobanldeicclmaaGreatDoorZ5
import Derived.Test.YtobanldeicclmaaGreatDoorZ2
import Derived.Lib.SlicesS
set_option maxHeartbeats 4000000
set_option maxRecDepth 100000
namespace Go.Proofs.YtobanldeicclmaaGreatDoor
open Go.RowKit Vtx
attribute [local go_sem ↓] Go.wp_at_zero Go.wp_at_succ
def G8 (cs : List Value) : Prop := ∃ k0 o0 s0 k1 n1 s1 A1 m1 c1 A2 m2 c2, cs = [.int .i64 k0, .int .i64 o0, .string s0, .int .i64 k1, .int .i64 n1, .string s1, .slice A1 m1 c1, .slice A2 m2 c2]
theorem G8.len {cs : List Value} (h : G8 cs) : cs.length = 8 := by
 obtain ⟨k0, o0, s0, k1, n1, s1, A1, m1, c1, A2, m2, c2, rfl⟩ := h
 rfl
def N9 (p : Nat → Prop) (w : World) (r : jO) (css : List (List Value)) : Prop := ∀ es l, r = .ok es l → iw w p es css
theorem N9.imp {p q : Nat → Prop} {w : World} {r : jO} {css : List (List Value)} (h : N9 p w r css) (hq : ∀ k, p k → k < w.heap.size → q k) : N9 q w r css := fun es l e => (h es l e).imp hq
theorem N9.keep {p : Nat → Prop} {w w' : World} {r : jO} {css : List (List Value)} (h : N9 p w r css) (hs : dG p w w') : N9 p w' r css := fun es l e => (h es l e).keep hs
theorem JE {p : Nat → Prop} {B : Nat} (o : Int) (r : jO) (css : List (List Value)) (A : Option Addr) (c : Nat) (w : World) (hG : ∀ cs ∈ css, G8 cs) (hn : 1 ≤ css.length) (hm : css.length ≤ maxLen) (ho : w.ownsRow B 27 8 (.slice A css.length c) css.length css.flatten) (hx : N9 p w r css) (hB : ∀ k, B ≤ k → p k) :
  Calls Tryz.prog 38 #[.int .i64 o, .slice A css.length c] w fun e w' => ∃ k0 o0 s0 k1 n1 s1 A1 m1 c1 A2 m2 c2, e = .returned (.agg #[.int .i64 k0, .int .i64 o0, .string s0, .int .i64 k1, .int .i64 n1, .string s1, .slice A1 m1 c1, .slice A2 m2 c2]) ∧ Below w.heap.size w w' ∧ RX p w' (r.bind fun es l => .ok (pG o es) l) [.int .i64 k0, .int .i64 o0, .string s0, .int .i64 k1, .int .i64 n1, .string s1, .slice A1 m1 c1, .slice A2 m2 c2] := by
 by_cases h1 : css.length = 1
 ·
  obtain ⟨cs, rfl⟩ : ∃ cs, css = [cs] := by
   cases css with
   | nil => simp at h1
   | cons a t =>
    cases t with
    | nil => exact ⟨a, rfl⟩
    | cons b t => simp at h1
  obtain ⟨k0, o0, s0, k1, n1, s1, A1, m1, c1, A2, m2, c2, hcs⟩ := hG cs (List.mem_cons_self ..)
  obtain ⟨ad, rfl, -, hc⟩ := (Reads.uq ho).2 (by simp)
  refine (LJ o ad c w k0 o0 k1 n1 s0 s1 A1 A2 m1 c1 m2 c2 (fun j u hu => hc j u (by rw [List.flatten_singleton, hcs]; exact hu))).mono ?_
  rintro e w' ⟨rfl, hb⟩
  refine ⟨k0, o0, s0, k1, n1, s1, A1, m1, c1, A2, m2, c2, rfl, hb, fun es l e => ?_⟩
  cases r with
  | err k => cases e
  | ok es0 l0 =>
   injection e with e1 e2
   have h2 := hx es0 l0 rfl
   have hl : es0.length = 1 := h2.len
   obtain ⟨x, rfl⟩ : ∃ x, es0 = [x] := by
    cases es0 with
    | nil => simp at hl
    | cons a t =>
     cases t with
     | nil => exact ⟨a, rfl⟩
     | cons b t => simp at hl
   have h3 := h2.ex 0 (by simp) (by simp)
   refine ⟨x, e1.symm, ?_⟩
   rw [← hcs]
   exact (h3.keep (dG.of hb)).up hb.size
 ·
  have h2 : 2 ≤ css.length := by omega
  refine (Js o A css.length c w h2).mono ?_
  rintro e w' ⟨rfl, hb⟩
  refine ⟨4, o, ⟨#[]⟩, 0, 0, ⟨#[]⟩, none, 0, 0, A, css.length, c, rfl, hb, fun es l e => ?_⟩
  cases r with
  | err k => cases e
  | ok es0 l0 =>
   injection e with e1 e2
   have h3 := hx es0 l0 rfl
   rw [BN o (l := es0) (by rw [h3.len]; exact h2)] at e1
   refine ⟨bQ o es0, e1.symm, ?_⟩
   have h4 := uQ (A := A) (c := c) o h3 hB (by rw [h3.len]; exact ho) (by rw [h3.len]; exact hm)
   have h5 := (h4.keep (dG.of hb)).up hb.size
   have h6 : ai (bQ o es0) none 0 A c = [.int .i64 4, .int .i64 o, .string ⟨#[]⟩, .int .i64 0, .int .i64 0, .string ⟨#[]⟩, .slice none 0 0, .slice A css.length c] := by
    rw [← h3.len]; rfl
   rw [← h6]
   exact h5
theorem Um (s : ByteArray) (st : RM) (h : ∀ st' : RM, st'.l.length ≤ st.l.length → MS 36 .and s st') : MS 15 .or s st := by
 intro g w hp hm
 have xk := qh h
 have hlt := hp.lt
 have HM := qh hm
 have qf := qh hp
 obtain ⟨R, hR⟩ := ae (st.P s.data.toList.length .or)
 have HG := qh (show R = (st.P s.data.toList.length .and).bind fun es l => Pz s.data.toList.length .Ia es l by
  rw [← hR]
  cases st with
  | at_ l => exact bW _ .or _ _
  | wr k => rfl)
 have HST := qh (show st.l.length ≤ 4001 by
  cases st with
  | at_ l => exact hp.1.len
  | wr k => exact Nat.zero_le _)
 rw [hR]
 clear h hp hm hR
 go_enter Tryz.func15, Tryz.ntmps15
 go_upto_region 1 with (fail)
 obtain ⟨W, hW, hkW, fV, hszW, hWs, -⟩ := iV g w
 have ny := qh (show dQ W g s st by rw [hW]; exact qf.out.alloc _)
 have oZ := qh (HM.out.kp hkW)
 rw [← hW]
 clear hW
 go_wp2_with fail
 refine (xk.out st (Nat.le_refl _) g W ny.out oZ.out).mono ?_
 rintro e w1 ⟨k0, o0, s0, k1, n1, s1, A1, m1, c1, A2, m2, c2, rfl, hs1, hk1, hx1⟩
 obtain ⟨r1, hr1⟩ := ae (st.P s.data.toList.length .and)
 have GX := qh (show (aX r1).l.length ≤ st.l.length from hr1 ▸ RM.nU)
 rw [hr1] at hs1 hx1 HG
 have qc := qh hs1
 have xn := qh hx1
 have mW := qh (hkW.trans hk1)
 have LU := hk1.size
 have eG := qh (fV.out.kp hk1 (by omega))
 clear hs1 hx1 hk1 hr1
 go_wp2_with fail
 obtain ⟨W1, hW1⟩ := au (w1.alloc (.cells #[.int .i64 k0, .int .i64 o0, .string s0, .int .i64 k1, .int .i64 n1, .string s1, .slice A1 m1 c1, .slice A2 m2 c2] 27 (0, 0)))
 have pU := qh (show Kp g w W1 by rw [hW1]; exact mW.out.alloc _)
 have GY := qh (show dQ W1 g s (aX r1) by rw [hW1]; exact qc.out.alloc _)
 have xX := qh (show ZB W1 w.heap.size by rw [hW1]; exact eG.out.alloc _)
 have HO1 := qh (show W1.ownsRow w1.heap.size 27 8 (.slice (some ⟨w1.heap.size, 0, none⟩) 1 1) 1 [.int .i64 k0, .int .i64 o0, .string s0, .int .i64 k1, .int .i64 n1, .string s1, .slice A1 m1 c1, .slice A2 m2 c2] by rw [hW1]; exact qB (af.new w1 _ _) (Nat.le_refl _) rfl)
 have CE := qh (show N9 (fun b => W.heap.size ≤ b ∧ b ≠ w1.heap.size) W1 r1 [[.int .i64 k0, .int .i64 o0, .string s0, .int .i64 k1, .int .i64 n1, .string s1, .slice A1 m1 c1, .slice A2 m2 c2]] by
  intro es l e
  obtain ⟨x, rfl, hx⟩ := xn.out es l e
  have h1 := hx.imp (q := fun b => W.heap.size ≤ b ∧ b ≠ w1.heap.size) (fun k hk hl => ⟨hk, by omega⟩)
  rw [hW1]
  exact iw.one ((h1.keep (dG.of ((Below.refl _ _).alloc (Nat.le_refl _) _))).up (by simp)))
 have CG : W1.heap.size = w1.heap.size + 1 := by rw [hW1]; simp
 rw [← hW1]
 clear hW1
 go_loopw [3] (fun v wr => ∃ (r : jO) (css : List (List Value)) (A : Option Addr) (c : Nat), v = .slice A css.length c ∧ Hid (∀ cs ∈ css, G8 cs) ∧ Hid (N9 (fun b => W.heap.size ≤ b ∧ some b ≠ (Value.slice A css.length c).ownBlock) wr r css) ∧ Hid (wr.ownsRow w1.heap.size 27 8 (.slice A css.length c) css.length css.flatten) ∧ Hid (w1.heap.size ≤ wr.heap.size) ∧ Hid (dQ wr g s (aX r)) ∧ Hid (Kp g w wr) ∧ Hid (ZB wr w.heap.size) ∧ Hid (R = r.bind fun es l => Pz s.data.toList.length .Ia es l) ∧ Hid (css.length + (aX r).l.length ≤ 4002 ∧ (aX r).l.length ≤ st.l.length) ∧ Hid (1 ≤ css.length)) (fun _ wr => JB wr g)
 case atStart =>
  refine ⟨r1, [[.int .i64 k0, .int .i64 o0, .string s0, .int .i64 k1, .int .i64 n1, .string s1, .slice A1 m1 c1, .slice A2 m2 c2]], some ⟨w1.heap.size, 0, none⟩, 1, rfl, qh ?_, ?_, ?_, qh (by omega), GY, pU, xX, HG, ?_, qh (Nat.le_refl _)⟩
  ·
   intro cs hcs
   rw [List.mem_singleton] at hcs
   exact ⟨k0, o0, s0, k1, n1, s1, A1, m1, c1, A2, m2, c2, hcs⟩
  ·
   exact qh (CE.out.imp (fun k hk _ => ⟨hk.1, fun e => hk.2 (by injection e)⟩))
  ·
   exact qh (by simpa using HO1.out)
  ·
   exact qh ⟨by have := GX.out; have := HST.out; simp; omega, GX.out⟩
 case round =>
  obtain ⟨r, css, A, c, rfl, Vs, HE, HO, GH, xY, qI, DL, uO, qJ, Wi⟩ := hrel
  obtain ⟨b, hb⟩ := ae ((aX r).is QU)
  have lh := qh (yQ xY.out QU)
  rw [show tb QU = ⟨#[111, 114]⟩ from rfl, hb] at lh
  have lu := qh hb
  have hgw : g < wr.heap.size := xY.out.lt
  clear hb
  go_wp2_with fail
  refine lh.out.mono ?_
  rintro e w4 ⟨rfl, hs4, hk4⟩
  have iK := qh hk4
  have hgW : g < w1.heap.size := by omega
  have Jz := qh (nN HO.out hk4 hgW)
  have dL := qh (DL.out.kp hk4 (by omega))
  have Qe := qh (HE.out.keep (hk4.stay (fun k hk => by omega)))
  have LV := qh hk4.size
  have vW := hk4.size
  have hm0 : css.length ≤ 4002 := by have := qJ.out.1; omega
  cases b
  ·
   rw [if_neg (by decide)] at hs4
   have pX := qh hs4
   clear hs4
   go_wp2_with fail
   refine (JE (p := fun b => W.heap.size ≤ b) 3 r css A c w4 Vs.out Wi.out (by unfold maxLen; omega) Jz.out (Qe.out.imp (fun k hk _ => hk.1)) (fun k hk => by omega)).mono ?_
   rintro e w5 ⟨gu, gy, gz, gG, gI, gJ, gK, gQ, gU, gV, gW, gX, rfl, hb5, hx5⟩
   have sK := qh hb5
   have tX := qh hx5
   have wE := dL.out.below hb5 dL.out.lt
   clear hx5
   obtain ⟨aQ, eX, aS, eY, aT, fD, aU, fE, aY, jR, aZ, jS, bu, jT, bz, jU⟩ := af.z8 wE
   go_wp2_with fail
   refine bodyPost_ret (v := .agg #[.int .i64 gu, .int .i64 gy, .string gz, .int .i64 gG, .int .i64 gI, .string gJ, .slice gK gQ gU, .slice gV gW gX]) (by simp [results, Tryz.results15, go_sem, aQ, aS, aT, aU, aY, aZ, bu, bz]) rfl ⟨gu, gy, gz, gG, gI, gJ, gK, gQ, gU, gV, gW, gX, rfl, ?_⟩
   have hend : R = r.bind fun es l => .ok (pG 3 es) l := by
    rw [uO.out]
    cases hr : r with
    | err k => rfl
    | ok es l =>
     have h1 : vN l QU = false := by have := lu.out; rw [hr] at this; exact this
     show Pz s.data.toList.length .Ia es l = .ok (pG 3 es) l
     rw [bW]
     dsimp only [dB]
     rw [← jI l (word := QU) (by decide) (by decide), h1, if_neg (by decide)]
   rw [hend]
   refine RR.ret (L := W.heap.size) ?_ ((qI.out.trans iK.out).trans (Kp.of sK.out)) tX.out hWs hlt _ _ _ _ _ _ _ _
   rw [dH (f := fun es => pG 3 es)]
   exact pX.out.below sK.out
  ·
   rw [if_pos rfl] at hs4
   have pX := qh hs4
   obtain ⟨tt, rr, hst, hrt⟩ := RM.yP lu.out
   obtain ⟨es0, hy⟩ : ∃ es, r = .ok es (tt :: rr) := by
    cases hr : r with
    | err k => rw [hr] at hst; cases hst
    | ok es l =>
     rw [hr] at hst
     injection hst with hst
     exact ⟨es, by rw [hst]⟩
   obtain ⟨r2, hr2⟩ := ae ((aX r).tl.P s.data.toList.length .and)
   have zQ := qh hy
   have fO := qh (show (aX r2).l.length < (aX r).l.length by
    have h1 := RM.nU (st := (aX r).tl) (n := s.data.toList.length) (nt := .and)
    rw [hr2] at h1
    have h2 := RM.qC hst
    omega)
   have rF := qh (show R = (r2.bind fun es l => .ok (es0 ++ es) l).bind fun es l => Pz s.data.toList.length .Ia es l by
    have h1 : vN (tt :: rr) QU = true := by have := lu.out; rw [hy] at this; exact this
    rw [uO.out, ← hr2, hy]
    show Pz s.data.toList.length .Ia es0 (tt :: rr) = _
    rw [bW]
    dsimp only [dB]
    rw [← jI _ (word := QU) (by decide) (by decide), if_pos h1]
    show (Pz s.data.toList.length .and [] rr).bind _ = ((Pz s.data.toList.length .and [] rr).bind _).bind _
    cases Pz s.data.toList.length .and [] rr <;> rfl)
   have HC2 := qh (fun W' hp hm => hr2 ▸ xk.out (aX r).tl (by have h1 := RM.qC hst; have h2 := qJ.out.2; omega) g W' hp hm)
   have WN := qh (Qe.out es0 _ hy)
   clear hs4 hst hy hr2 hrt
   go_wp2_with fail
   refine (HC2.out w4 pX.out (HM.out.kp (qI.out.trans iK.out))).mono ?_
   rintro e w5 ⟨lU, lV, lW, lX, lY, lZ, l7, l9, mf, mg, mi, mr, rfl, hs5, hk5, hx5⟩
   have rq := qh ((qI.out.trans iK.out).trans hk5)
   have D5 := qh hk5
   have Eh := qh hs5
   have tX := qh hx5
   have Jn := qh (nN Jz.out hk5 hgW)
   have oP := qh (dL.out.kp hk5 (by omega))
   have hsz5 := hk5.size
   have hb5 : w1.heap.size ≤ w5.heap.size := by have := GH.out; omega
   obtain ⟨i0, hi0, hz0, hz1, hz2⟩ := info_parts BM
   clear hs5 hx5 hk5
   go_wp2_with (at_builtin; refine wpList_append_lies _ rfl _ _ 25 rfl w1.heap.size 27 i0 (.agg #[.int .i64 0, .int .i64 0, .string ⟨#[]⟩, .int .i64 0, .int .i64 0, .string ⟨#[]⟩, .slice none 0 0, .slice none 0 0]) 8 112 Tryz.underlying25 hi0 hz0 hz1 hz2 rfl (by decide) _ _ _ rfl (Jn.out.alloc _) ⟨w5.heap.size, 0, none⟩ 1 1 [.int .i64 lU, .int .i64 lV, .string lW, .int .i64 lX, .int .i64 lY, .string lZ, .slice l7 l9 mf, .slice mg mi mr] rfl rfl ?d1 ?d2 (by decide) ?d3 ?d4 ?d5 _ rfl ?_)
   case d1 => exact World.news_of_block (af.new w5 27 _)
   case d2 => intro u hu; simp only [List.mem_cons, List.not_mem_nil, or_false] at hu; rcases hu with rfl | rfl | rfl | rfl | rfl | rfl | rfl | rfl <;> rfl
   case d3 => unfold maxLen; omega
   case d4 => omega
   case d5 => simp; omega
   intro g7 cap w7 ig kC kV ru
   go_wp2_with fail
   have hob : ∀ k, (Value.slice A css.length c).ownBlock = some k → w1.heap.size ≤ k ∧ k < wr.heap.size := fun k hk => HO.out.lt k hk
   have xW := qh hob
   have GZ := qh (show dQ w7 g s (aX (r2.bind fun es l => .ok (es0 ++ es) l)) by
    rw [dH (f := fun es => es0 ++ es)]
    have hs7 := kC.size
    refine Eh.out.far (by simp at hs7; omega) (fun k hk => ?_)
    have hk5 : k < w5.heap.size := by have := Eh.out.lt; omega
    exact (kC.block k (by simp; omega) (fun e => by have := (xW.out k e.symm).1; omega)).trans (Below.heap_alloc w5 _ k hk5))
   have FD := qh (show (aX (r2.bind fun es l => .ok (es0 ++ es) l)).l.length < (aX r).l.length by
    rw [dH (f := fun es => es0 ++ es)]
    exact fO.out)
   go_roundw
   case rel =>
    have hs7 := kC.size
    refine ⟨r2.bind fun es l => .ok (es0 ++ es) l, css ++ [([.int .i64 lU, .int .i64 lV, .string lW, .int .i64 lX, .int .i64 lY, .string lZ, .slice l7 l9 mf, .slice mg mi mr] : List Value)], some ⟨g7, 0, none⟩, cap, by simp, ?_, ?_, ?_, ?_, GZ, ?_, ?_, rF, ?_, ?_⟩
    ·
     exact qh (fun cs hcs => by
      rcases List.mem_append.1 hcs with h | h
      ·
       exact Vs.out cs h
      ·
       rw [List.mem_singleton] at h
       exact ⟨lU, lV, lW, lX, lY, lZ, l7, l9, mf, mg, mi, mr, h⟩)
    ·
     refine qh (fun es l e => ?_)
     cases hr2 : r2 with
     | err k => rw [hr2] at e; cases e
     | ok es2 l2 =>
      rw [hr2] at e
      injection e with e1 e2
      obtain ⟨y, hy1, hy2⟩ := tX.out es2 l2 hr2
      subst hy1
      rw [← e1]
      have h1 := WN.out.imp (q := fun b => (W.heap.size ≤ b ∧ some b ≠ (Value.slice A css.length c).ownBlock) ∧ some b ≠ some g7 ∧ b < w4.heap.size) (fun k hk hl => ⟨hk, fun e => by
       injection e with e
       rcases kV with h | h
       ·
        exact hk.2 (by rw [h, e])
       ·
        try simp at h
        omega, hl⟩)
      have h2 := (h1.keep (w' := w7) ⟨by simp at hs7; omega, fun k hk hl => by
       rw [kC.block k (by simp; omega) hk.1.2, Below.heap_alloc w5 _ k (by omega)]
       exact D5.out.block k hl (fun e => by injection e with e; have := hk.1.1; omega)⟩).imp (q := fun b => W.heap.size ≤ b ∧ some b ≠ (Value.slice (some ⟨g7, 0, none⟩) (css ++ [([.int .i64 lU, .int .i64 lV, .string lW, .int .i64 lX, .int .i64 lY, .string lZ, .slice l7 l9 mf, .slice mg mi mr] : List Value)]).length cap).ownBlock) (fun k hk _ => ⟨hk.1.1, hk.2.1⟩)
      have hz1 := GH.out
      have h3 := hy2.imp (q := fun b => b < w5.heap.size ∧ (W.heap.size ≤ b ∧ some b ≠ (Value.slice (some ⟨g7, 0, none⟩) (css ++ [([.int .i64 lU, .int .i64 lV, .string lW, .int .i64 lX, .int .i64 lY, .string lZ, .slice l7 l9 mf, .slice mg mi mr] : List Value)]).length cap).ownBlock) ∧ some b ≠ (Value.slice A css.length c).ownBlock) (fun k hk hl => ⟨hl, ⟨by omega, fun e => by
       have e' : k = g7 := by injection e
       rcases kV with h | h
       ·
        have := (xW.out g7 h).2
        omega
       ·
        try simp at h
        omega⟩, fun e => by
       have := (xW.out k e.symm).2
       omega⟩)
      have h4 := ((h3.keep (w' := w7) ⟨by simp at hs7; omega, fun k hk hl => by
       rw [kC.block k (by simp; omega) hk.2.2, Below.heap_alloc w5 _ k hl]⟩).up (B' := w7.heap.size) (by simp at hs7; omega)).imp (q := fun b => W.heap.size ≤ b ∧ some b ≠ (Value.slice (some ⟨g7, 0, none⟩) (css ++ [([.int .i64 lU, .int .i64 lV, .string lW, .int .i64 lX, .int .i64 lY, .string lZ, .slice l7 l9 mf, .slice mg mi mr] : List Value)]).length cap).ownBlock) (fun k hk _ => hk.2.1)
      exact h2.snoc h4
    ·
     have e1 : (css ++ [([.int .i64 lU, .int .i64 lV, .string lW, .int .i64 lX, .int .i64 lY, .string lZ, .slice l7 l9 mf, .slice mg mi mr] : List Value)]).length = css.length + 1 := by simp
     have e2 : (css ++ [([.int .i64 lU, .int .i64 lV, .string lW, .int .i64 lX, .int .i64 lY, .string lZ, .slice l7 l9 mf, .slice mg mi mr] : List Value)]).flatten = css.flatten ++ ([.int .i64 lU, .int .i64 lV, .string lW, .int .i64 lX, .int .i64 lY, .string lZ, .slice l7 l9 mf, .slice mg mi mr] : List Value) := by simp
     rw [e1, e2]
     exact qh ig
    ·
     exact qh (by simp at hs7; omega)
    ·
     exact qh ((rq.out.alloc _).grown kC (fun k hk => by
      have h1 := (xW.out k hk).1
      omega))
    ·
     refine qh ?_
     have h1 := oP.out.alloc (.cells #[.int .i64 lU, .int .i64 lV, .string lW, .int .i64 lX, .int .i64 lY, .string lZ, .slice l7 l9 mf, .slice mg mi mr] 27 (0, 0))
     have h2 := kC.block w.heap.size h1.lt (fun e => by have := (xW.out _ e.symm).1; omega)
     (try unfold ZB); unfold af
     rw [h2]
     exact h1
    ·
     refine qh ?_
     have h1 := FD.out
     have h2 := qJ.out
     refine ⟨?_, by omega⟩
     rw [List.length_append, List.length_singleton]
     omega
    ·
     exact qh (by simp)
   case measure =>
    have h1 := GZ.out.len
    have h2 := xY.out.len
    have h3 := FD.out
    rw [← h1, ← h2] at h3
    exact h3
theorem Qg (s : ByteArray) (st : RM) (h : ∀ st' : RM, st'.l.length ≤ st.l.length → MS 60 .not s st') : MS 36 .and s st := by
 intro g w hp hm
 have xk := qh h
 have hlt := hp.lt
 have HM := qh hm
 have qf := qh hp
 obtain ⟨R, hR⟩ := ae (st.P s.data.toList.length .and)
 have HG := qh (show R = (st.P s.data.toList.length .not).bind fun es l => Pz s.data.toList.length .tZ es l by
  rw [← hR]
  cases st with
  | at_ l => exact bW _ .and _ _
  | wr k => rfl)
 have HST := qh (show st.l.length ≤ 4001 by
  cases st with
  | at_ l => exact hp.1.len
  | wr k => exact Nat.zero_le _)
 rw [hR]
 clear h hp hm hR
 go_enter Tryz.func36, Tryz.ntmps36
 go_upto_region 1 with (fail)
 obtain ⟨W, hW, hkW, fV, hszW, hWs, -⟩ := iV g w
 have ny := qh (show dQ W g s st by rw [hW]; exact qf.out.alloc _)
 have oZ := qh (HM.out.kp hkW)
 rw [← hW]
 clear hW
 go_wp2_with fail
 refine (xk.out st (Nat.le_refl _) g W ny.out oZ.out).mono ?_
 rintro e w1 ⟨k0, o0, s0, k1, n1, s1, A1, m1, c1, A2, m2, c2, rfl, hs1, hk1, hx1⟩
 obtain ⟨r1, hr1⟩ := ae (st.P s.data.toList.length .not)
 have GX := qh (show (aX r1).l.length ≤ st.l.length from hr1 ▸ RM.nU)
 rw [hr1] at hs1 hx1 HG
 have qc := qh hs1
 have xn := qh hx1
 have mW := qh (hkW.trans hk1)
 have LU := hk1.size
 have eG := qh (fV.out.kp hk1 (by omega))
 clear hs1 hx1 hk1 hr1
 go_wp2_with fail
 obtain ⟨W1, hW1⟩ := au (w1.alloc (.cells #[.int .i64 k0, .int .i64 o0, .string s0, .int .i64 k1, .int .i64 n1, .string s1, .slice A1 m1 c1, .slice A2 m2 c2] 27 (0, 0)))
 have pU := qh (show Kp g w W1 by rw [hW1]; exact mW.out.alloc _)
 have GY := qh (show dQ W1 g s (aX r1) by rw [hW1]; exact qc.out.alloc _)
 have xX := qh (show ZB W1 w.heap.size by rw [hW1]; exact eG.out.alloc _)
 have HO1 := qh (show W1.ownsRow w1.heap.size 27 8 (.slice (some ⟨w1.heap.size, 0, none⟩) 1 1) 1 [.int .i64 k0, .int .i64 o0, .string s0, .int .i64 k1, .int .i64 n1, .string s1, .slice A1 m1 c1, .slice A2 m2 c2] by rw [hW1]; exact qB (af.new w1 _ _) (Nat.le_refl _) rfl)
 have CE := qh (show N9 (fun b => W.heap.size ≤ b ∧ b ≠ w1.heap.size) W1 r1 [[.int .i64 k0, .int .i64 o0, .string s0, .int .i64 k1, .int .i64 n1, .string s1, .slice A1 m1 c1, .slice A2 m2 c2]] by
  intro es l e
  obtain ⟨x, rfl, hx⟩ := xn.out es l e
  have h1 := hx.imp (q := fun b => W.heap.size ≤ b ∧ b ≠ w1.heap.size) (fun k hk hl => ⟨hk, by omega⟩)
  rw [hW1]
  exact iw.one ((h1.keep (dG.of ((Below.refl _ _).alloc (Nat.le_refl _) _))).up (by simp)))
 have CG : W1.heap.size = w1.heap.size + 1 := by rw [hW1]; simp
 rw [← hW1]
 clear hW1
 go_loopw [3] (fun v wr => ∃ (r : jO) (css : List (List Value)) (A : Option Addr) (c : Nat), v = .slice A css.length c ∧ Hid (∀ cs ∈ css, G8 cs) ∧ Hid (N9 (fun b => W.heap.size ≤ b ∧ some b ≠ (Value.slice A css.length c).ownBlock) wr r css) ∧ Hid (wr.ownsRow w1.heap.size 27 8 (.slice A css.length c) css.length css.flatten) ∧ Hid (w1.heap.size ≤ wr.heap.size) ∧ Hid (dQ wr g s (aX r)) ∧ Hid (Kp g w wr) ∧ Hid (ZB wr w.heap.size) ∧ Hid (R = r.bind fun es l => Pz s.data.toList.length .tZ es l) ∧ Hid (css.length + (aX r).l.length ≤ 4002 ∧ (aX r).l.length ≤ st.l.length) ∧ Hid (1 ≤ css.length)) (fun _ wr => JB wr g)
 case atStart =>
  refine ⟨r1, [[.int .i64 k0, .int .i64 o0, .string s0, .int .i64 k1, .int .i64 n1, .string s1, .slice A1 m1 c1, .slice A2 m2 c2]], some ⟨w1.heap.size, 0, none⟩, 1, rfl, qh ?_, ?_, ?_, qh (by omega), GY, pU, xX, HG, ?_, qh (Nat.le_refl _)⟩
  ·
   intro cs hcs
   rw [List.mem_singleton] at hcs
   exact ⟨k0, o0, s0, k1, n1, s1, A1, m1, c1, A2, m2, c2, hcs⟩
  ·
   exact qh (CE.out.imp (fun k hk _ => ⟨hk.1, fun e => hk.2 (by injection e)⟩))
  ·
   exact qh (by simpa using HO1.out)
  ·
   exact qh ⟨by have := GX.out; have := HST.out; simp; omega, GX.out⟩
 case round =>
  obtain ⟨r, css, A, c, rfl, Vs, HE, HO, GH, xY, qI, DL, uO, qJ, Wi⟩ := hrel
  obtain ⟨b, hb⟩ := ae ((aX r).is zL)
  have lh := qh (yQ xY.out zL)
  rw [show tb zL = ⟨#[97, 110, 100]⟩ from rfl, hb] at lh
  have lu := qh hb
  have hgw : g < wr.heap.size := xY.out.lt
  clear hb
  go_wp2_with fail
  refine lh.out.mono ?_
  rintro e w4 ⟨rfl, hs4, hk4⟩
  have iK := qh hk4
  have hgW : g < w1.heap.size := by omega
  have Jz := qh (nN HO.out hk4 hgW)
  have dL := qh (DL.out.kp hk4 (by omega))
  have Qe := qh (HE.out.keep (hk4.stay (fun k hk => by omega)))
  have LV := qh hk4.size
  have vW := hk4.size
  have hm0 : css.length ≤ 4002 := by have := qJ.out.1; omega
  cases b
  ·
   rw [if_neg (by decide)] at hs4
   have pX := qh hs4
   clear hs4
   go_wp2_with fail
   refine (JE (p := fun b => W.heap.size ≤ b) 2 r css A c w4 Vs.out Wi.out (by unfold maxLen; omega) Jz.out (Qe.out.imp (fun k hk _ => hk.1)) (fun k hk => by omega)).mono ?_
   rintro e w5 ⟨gu, gy, gz, gG, gI, gJ, gK, gQ, gU, gV, gW, gX, rfl, hb5, hx5⟩
   have sK := qh hb5
   have tX := qh hx5
   have wE := dL.out.below hb5 dL.out.lt
   clear hx5
   obtain ⟨aQ, eX, aS, eY, aT, fD, aU, fE, aY, jR, aZ, jS, bu, jT, bz, jU⟩ := af.z8 wE
   go_wp2_with fail
   refine bodyPost_ret (v := .agg #[.int .i64 gu, .int .i64 gy, .string gz, .int .i64 gG, .int .i64 gI, .string gJ, .slice gK gQ gU, .slice gV gW gX]) (by simp [results, Tryz.results36, go_sem, aQ, aS, aT, aU, aY, aZ, bu, bz]) rfl ⟨gu, gy, gz, gG, gI, gJ, gK, gQ, gU, gV, gW, gX, rfl, ?_⟩
   have hend : R = r.bind fun es l => .ok (pG 2 es) l := by
    rw [uO.out]
    cases hr : r with
    | err k => rfl
    | ok es l =>
     have h1 : vN l zL = false := by have := lu.out; rw [hr] at this; exact this
     show Pz s.data.toList.length .tZ es l = .ok (pG 2 es) l
     rw [bW]
     dsimp only [dB]
     rw [← jI l (word := zL) (by decide) (by decide), h1, if_neg (by decide)]
   rw [hend]
   refine RR.ret (L := W.heap.size) ?_ ((qI.out.trans iK.out).trans (Kp.of sK.out)) tX.out hWs hlt _ _ _ _ _ _ _ _
   rw [dH (f := fun es => pG 2 es)]
   exact pX.out.below sK.out
  ·
   rw [if_pos rfl] at hs4
   have pX := qh hs4
   obtain ⟨tt, rr, hst, hrt⟩ := RM.yP lu.out
   obtain ⟨es0, hy⟩ : ∃ es, r = .ok es (tt :: rr) := by
    cases hr : r with
    | err k => rw [hr] at hst; cases hst
    | ok es l =>
     rw [hr] at hst
     injection hst with hst
     exact ⟨es, by rw [hst]⟩
   obtain ⟨r2, hr2⟩ := ae ((aX r).tl.P s.data.toList.length .not)
   have zQ := qh hy
   have fO := qh (show (aX r2).l.length < (aX r).l.length by
    have h1 := RM.nU (st := (aX r).tl) (n := s.data.toList.length) (nt := .not)
    rw [hr2] at h1
    have h2 := RM.qC hst
    omega)
   have rF := qh (show R = (r2.bind fun es l => .ok (es0 ++ es) l).bind fun es l => Pz s.data.toList.length .tZ es l by
    have h1 : vN (tt :: rr) zL = true := by have := lu.out; rw [hy] at this; exact this
    rw [uO.out, ← hr2, hy]
    show Pz s.data.toList.length .tZ es0 (tt :: rr) = _
    rw [bW]
    dsimp only [dB]
    rw [← jI _ (word := zL) (by decide) (by decide), if_pos h1]
    show (Pz s.data.toList.length .not [] rr).bind _ = ((Pz s.data.toList.length .not [] rr).bind _).bind _
    cases Pz s.data.toList.length .not [] rr <;> rfl)
   have HC2 := qh (fun W' hp hm => hr2 ▸ xk.out (aX r).tl (by have h1 := RM.qC hst; have h2 := qJ.out.2; omega) g W' hp hm)
   have WN := qh (Qe.out es0 _ hy)
   clear hs4 hst hy hr2 hrt
   go_wp2_with fail
   refine (HC2.out w4 pX.out (HM.out.kp (qI.out.trans iK.out))).mono ?_
   rintro e w5 ⟨lU, lV, lW, lX, lY, lZ, l7, l9, mf, mg, mi, mr, rfl, hs5, hk5, hx5⟩
   have rq := qh ((qI.out.trans iK.out).trans hk5)
   have D5 := qh hk5
   have Eh := qh hs5
   have tX := qh hx5
   have Jn := qh (nN Jz.out hk5 hgW)
   have oP := qh (dL.out.kp hk5 (by omega))
   have hsz5 := hk5.size
   have hb5 : w1.heap.size ≤ w5.heap.size := by have := GH.out; omega
   obtain ⟨i0, hi0, hz0, hz1, hz2⟩ := info_parts BM
   clear hs5 hx5 hk5
   go_wp2_with (at_builtin; refine wpList_append_lies _ rfl _ _ 25 rfl w1.heap.size 27 i0 (.agg #[.int .i64 0, .int .i64 0, .string ⟨#[]⟩, .int .i64 0, .int .i64 0, .string ⟨#[]⟩, .slice none 0 0, .slice none 0 0]) 8 112 Tryz.underlying25 hi0 hz0 hz1 hz2 rfl (by decide) _ _ _ rfl (Jn.out.alloc _) ⟨w5.heap.size, 0, none⟩ 1 1 [.int .i64 lU, .int .i64 lV, .string lW, .int .i64 lX, .int .i64 lY, .string lZ, .slice l7 l9 mf, .slice mg mi mr] rfl rfl ?d1 ?d2 (by decide) ?d3 ?d4 ?d5 _ rfl ?_)
   case d1 => exact World.news_of_block (af.new w5 27 _)
   case d2 => intro u hu; simp only [List.mem_cons, List.not_mem_nil, or_false] at hu; rcases hu with rfl | rfl | rfl | rfl | rfl | rfl | rfl | rfl <;> rfl
   case d3 => unfold maxLen; omega
   case d4 => omega
   case d5 => simp; omega
   intro g7 cap w7 ig kC kV ru
   go_wp2_with fail
   have hob : ∀ k, (Value.slice A css.length c).ownBlock = some k → w1.heap.size ≤ k ∧ k < wr.heap.size := fun k hk => HO.out.lt k hk
   have xW := qh hob
   have GZ := qh (show dQ w7 g s (aX (r2.bind fun es l => .ok (es0 ++ es) l)) by
    rw [dH (f := fun es => es0 ++ es)]
    have hs7 := kC.size
    refine Eh.out.far (by simp at hs7; omega) (fun k hk => ?_)
    have hk5 : k < w5.heap.size := by have := Eh.out.lt; omega
    exact (kC.block k (by simp; omega) (fun e => by have := (xW.out k e.symm).1; omega)).trans (Below.heap_alloc w5 _ k hk5))
   have FD := qh (show (aX (r2.bind fun es l => .ok (es0 ++ es) l)).l.length < (aX r).l.length by
    rw [dH (f := fun es => es0 ++ es)]
    exact fO.out)
   go_roundw
   case rel =>
    have hs7 := kC.size
    refine ⟨r2.bind fun es l => .ok (es0 ++ es) l, css ++ [([.int .i64 lU, .int .i64 lV, .string lW, .int .i64 lX, .int .i64 lY, .string lZ, .slice l7 l9 mf, .slice mg mi mr] : List Value)], some ⟨g7, 0, none⟩, cap, by simp, ?_, ?_, ?_, ?_, GZ, ?_, ?_, rF, ?_, ?_⟩
    ·
     exact qh (fun cs hcs => by
      rcases List.mem_append.1 hcs with h | h
      ·
       exact Vs.out cs h
      ·
       rw [List.mem_singleton] at h
       exact ⟨lU, lV, lW, lX, lY, lZ, l7, l9, mf, mg, mi, mr, h⟩)
    ·
     refine qh (fun es l e => ?_)
     cases hr2 : r2 with
     | err k => rw [hr2] at e; cases e
     | ok es2 l2 =>
      rw [hr2] at e
      injection e with e1 e2
      obtain ⟨y, hy1, hy2⟩ := tX.out es2 l2 hr2
      subst hy1
      rw [← e1]
      have h1 := WN.out.imp (q := fun b => (W.heap.size ≤ b ∧ some b ≠ (Value.slice A css.length c).ownBlock) ∧ some b ≠ some g7 ∧ b < w4.heap.size) (fun k hk hl => ⟨hk, fun e => by
       injection e with e
       rcases kV with h | h
       ·
        exact hk.2 (by rw [h, e])
       ·
        try simp at h
        omega, hl⟩)
      have h2 := (h1.keep (w' := w7) ⟨by simp at hs7; omega, fun k hk hl => by
       rw [kC.block k (by simp; omega) hk.1.2, Below.heap_alloc w5 _ k (by omega)]
       exact D5.out.block k hl (fun e => by injection e with e; have := hk.1.1; omega)⟩).imp (q := fun b => W.heap.size ≤ b ∧ some b ≠ (Value.slice (some ⟨g7, 0, none⟩) (css ++ [([.int .i64 lU, .int .i64 lV, .string lW, .int .i64 lX, .int .i64 lY, .string lZ, .slice l7 l9 mf, .slice mg mi mr] : List Value)]).length cap).ownBlock) (fun k hk _ => ⟨hk.1.1, hk.2.1⟩)
      have hz1 := GH.out
      have h3 := hy2.imp (q := fun b => b < w5.heap.size ∧ (W.heap.size ≤ b ∧ some b ≠ (Value.slice (some ⟨g7, 0, none⟩) (css ++ [([.int .i64 lU, .int .i64 lV, .string lW, .int .i64 lX, .int .i64 lY, .string lZ, .slice l7 l9 mf, .slice mg mi mr] : List Value)]).length cap).ownBlock) ∧ some b ≠ (Value.slice A css.length c).ownBlock) (fun k hk hl => ⟨hl, ⟨by omega, fun e => by
       have e' : k = g7 := by injection e
       rcases kV with h | h
       ·
        have := (xW.out g7 h).2
        omega
       ·
        try simp at h
        omega⟩, fun e => by
       have := (xW.out k e.symm).2
       omega⟩)
      have h4 := ((h3.keep (w' := w7) ⟨by simp at hs7; omega, fun k hk hl => by
       rw [kC.block k (by simp; omega) hk.2.2, Below.heap_alloc w5 _ k hl]⟩).up (B' := w7.heap.size) (by simp at hs7; omega)).imp (q := fun b => W.heap.size ≤ b ∧ some b ≠ (Value.slice (some ⟨g7, 0, none⟩) (css ++ [([.int .i64 lU, .int .i64 lV, .string lW, .int .i64 lX, .int .i64 lY, .string lZ, .slice l7 l9 mf, .slice mg mi mr] : List Value)]).length cap).ownBlock) (fun k hk _ => hk.2.1)
      exact h2.snoc h4
    ·
     have e1 : (css ++ [([.int .i64 lU, .int .i64 lV, .string lW, .int .i64 lX, .int .i64 lY, .string lZ, .slice l7 l9 mf, .slice mg mi mr] : List Value)]).length = css.length + 1 := by simp
     have e2 : (css ++ [([.int .i64 lU, .int .i64 lV, .string lW, .int .i64 lX, .int .i64 lY, .string lZ, .slice l7 l9 mf, .slice mg mi mr] : List Value)]).flatten = css.flatten ++ ([.int .i64 lU, .int .i64 lV, .string lW, .int .i64 lX, .int .i64 lY, .string lZ, .slice l7 l9 mf, .slice mg mi mr] : List Value) := by simp
     rw [e1, e2]
     exact qh ig
    ·
     exact qh (by simp at hs7; omega)
    ·
     exact qh ((rq.out.alloc _).grown kC (fun k hk => by
      have h1 := (xW.out k hk).1
      omega))
    ·
     refine qh ?_
     have h1 := oP.out.alloc (.cells #[.int .i64 lU, .int .i64 lV, .string lW, .int .i64 lX, .int .i64 lY, .string lZ, .slice l7 l9 mf, .slice mg mi mr] 27 (0, 0))
     have h2 := kC.block w.heap.size h1.lt (fun e => by have := (xW.out _ e.symm).1; omega)
     (try unfold ZB); unfold af
     rw [h2]
     exact h1
    ·
     refine qh ?_
     have h1 := FD.out
     have h2 := qJ.out
     refine ⟨?_, by omega⟩
     rw [List.length_append, List.length_singleton]
     omega
    ·
     exact qh (by simp)
   case measure =>
    have h1 := GZ.out.len
    have h2 := xY.out.len
    have h3 := FD.out
    rw [← h1, ← h2] at h3
    exact h3
end Go.Proofs.YtobanldeicclmaaGreatDoor
namespace Go.Proofs.YtobanldeicclmaaGreatDoor
open Vtx Go.Lib
def ou (x : List UInt8) : List UInt8 := if fM x then iE x else x
theorem CP {x : List UInt8} {v : Val} (h : fQ x = some v) : aV v = 0 ∧ showT v.k v.n v.s.data.toList v.l = x := by
 unfold fQ at h
 split at h
 ·
  rename_i hx
  injection h with h
  rw [← h]
  exact hx.choose_spec
 ·
  cases h
theorem L6 (r : List UInt8) : ∃ r', iE (123 :: r) = 123 :: r' := by
 unfold iE
 rw [xM _ _ _ (by simp)]
 exact ⟨_, by rw [List.nil_append, fU _ _ (by decide)]⟩
theorem L8 {x : List UInt8} (h : fM x = true) : ∃ r, ou x = 123 :: r := by
 unfold ou
 rw [if_pos h]
 unfold fM at h
 split at h
 ·
  rename_i c r
  have hc := of_decide_eq_true h
  subst hc
  exact L6 _
 ·
  cases h
theorem Qh {x : List UInt8} (hc : dF x = true) {v : Val} (h : fQ (ou x) = some v) : v.k ≠ 0 ∧ v.k ≠ 1 := by
 obtain ⟨h1, h2⟩ := CP h
 have hw : ∀ y : List UInt8, (fM x = true → ∀ r, y ≠ 123 :: r) → dF y = false → showT v.k v.n v.s.data.toList v.l = y → False := fun y hy hn e => by
  rw [e] at h2
  cases hb : fM x with
  | true =>
   obtain ⟨r, hr⟩ := L8 hb
   exact hy hb r (h2.trans hr)
  | false =>
   rw [show ou x = x from by unfold ou; rw [hb]; rfl] at h2
   rw [h2, hc] at hn
   cases hn
 constructor
 ·
  intro e
  exact hw [45] (fun _ r => by simp) (by decide) (by rw [e]; rfl)
 ·
  intro e
  have e2 : showT v.k v.n v.s.data.toList v.l = qm v.n := by rw [e]; rfl
  have h3 : qm v.n = OC ∨ qm v.n = OD ∨ qm v.n = OE := by
   unfold qm
   split
   ·
    exact .inl rfl
   ·
    split
    ·
     exact .inr (.inl rfl)
    ·
     exact .inr (.inr rfl)
  rcases h3 with h3 | h3 | h3 <;> rw [h3] at e2 <;> exact hw _ (fun _ r => by simp [OC, OD, OE]) (by decide) e2
theorem WO {x : List UInt8} (hc : dF x = false) (h45 : ∀ r, x = 45 :: r → r = []) {v : Val} (h : fQ (ou x) = some v) : v.k = 0 ∨ v.k = 1 := by
 obtain ⟨h1, h2⟩ := CP h
 have hb : fM x = false := by
  cases hb : fM x with
  | false => rfl
  | true =>
   unfold fM at hb
   unfold dF at hc
   cases x with
   | nil => cases hb
   | cons c r =>
    have hb : decide (c = 123) = true := hb
    simp only [hb, Bool.or_true, Bool.true_or] at hc
    cases hc
 rw [show ou x = x from by unfold ou; rw [hb]; rfl] at h2
 by_cases h0 : v.k = 0
 ·
  exact .inl h0
 by_cases h7 : v.k = 1
 ·
  exact .inr h7
 exfalso
 have hs := (qG h1).1
 have hn : ¬ (v.k = 2 ∧ v.n < 0) := by
  rintro ⟨e1, e2⟩
  have e3 : showT v.k v.n v.s.data.toList v.l = mJ v.n := by rw [e1]; rfl
  rw [e3] at h2
  unfold mJ at h2
  rw [if_pos e2] at h2
  have h3 := h45 _ (by rw [← h2]; rfl)
  have h4 : itoa (mZ v.n / 10000) = [] := (List.append_eq_nil_iff.1 h3).1
  have h5 : 0 ≤ mZ v.n / 10000 := by unfold mZ; rw [if_pos e2]; omega
  obtain ⟨m, hm⟩ := Int.eq_ofNat_of_zero_le h5
  rw [hm, jd] at h4
  obtain ⟨b, r, e, -⟩ := mM m
  rw [h4] at e
  cases e
 have hcw := AQ hs ⟨h0, h7⟩ hn
 rw [h2] at hcw
 rw [hcw.const] at hc
 cases hc
theorem val_neg {c : UInt8} {x : List UInt8} {v : Val} (h : fQ (45 :: c :: x) = some v) : v.k = 2 := by
 obtain ⟨h1, h2⟩ := CP h
 have hs := (qG h1).1
 have h0 : v.k ≠ 0 := fun e => by
  have e2 : showT v.k v.n v.s.data.toList v.l = [45] := by rw [e]; rfl
  rw [e2] at h2
  injection h2 with _ h2
  cases h2
 have h3 : v.k ≠ 1 := fun e => by
  have e2 : showT v.k v.n v.s.data.toList v.l = qm v.n := by rw [e]; rfl
  rw [e2] at h2
  unfold qm at h2
  split at h2
  ·
   cases h2
  ·
   split at h2
   ·
    cases h2
   ·
    cases h2
 by_cases h4 : v.k = 2 ∧ v.n < 0
 ·
  exact h4.1
 ·
  have hcw := AQ hs ⟨h0, h3⟩ h4
  rw [h2] at hcw
  have h5 := hcw.const
  cases h5
theorem Qi {s : List UInt8} {i : Nat} {t : Tok} (h : bV s i = some t) {w : List UInt8} (e : t.tx = 45 :: w) : t.tx = [45] := by
 obtain ⟨-, hlt, -, -, -, htx, -⟩ := dW h
 rw [drop_cons hlt] at htx
 obtain ⟨c, hc⟩ := ae (s.getD t.at_ 0)
 obtain ⟨r, hr⟩ := ae (s.drop (t.at_ + 1))
 rw [hc, hr, e] at htx
 have hp := uC c r
 obtain ⟨m, hm⟩ : ∃ m, aJ (c :: r) = m + 1 := ⟨aJ (c :: r) - 1, by omega⟩
 rw [hm, List.take_succ_cons] at htx
 injection htx with h1 h2
 subst h1
 have hl : aJ (45 :: r) = 1 := by
  rw [aJ, if_neg (by decide), if_neg (by decide), if_neg (by decide), if_neg (by decide), if_neg (by decide), if_neg (by decide)]
  cases r with
  | nil => rfl
  | cons d r => show (if F9 45 d then 2 else 1) = 1; rw [if_neg (by simp [F9])]
 have hm0 : m = 0 := by omega
 rw [e, h2, hm0]
 rfl
theorem jA : Lib.fields (⟨#[115, 117, 109, 32, 99, 111, 117, 110, 116, 32, 97, 110, 121, 32, 97, 108, 108, 32, 108, 101, 97, 115, 116, 32, 109, 111, 115, 116]⟩ : ByteArray).data.toList = bY := by decide +kernel
theorem Qj : Lib.fields (⟨#[97, 110, 115, 119, 101, 114, 101, 100, 32, 97, 115, 107, 101, 100, 32, 114, 101, 97, 115, 111, 110, 32, 45, 32, 45, 32, 45, 32, 45, 32, 45, 32, 45, 32, 97, 98, 115, 32, 102, 108, 111, 111, 114, 32, 114, 111, 117, 110, 100, 32, 109, 105, 110, 32, 109, 97, 120, 32, 105, 102, 32, 101, 108, 115, 101, 32, 115, 105, 122, 101, 32, 99, 111, 100, 101, 32, 108, 111, 119, 101, 114, 32, 106, 111, 105, 110, 32, 98, 101, 103, 105, 110, 115, 32, 104, 111, 108, 100, 115, 32, 121, 101, 97, 114, 32, 109, 111, 110, 116, 104, 32, 100, 97, 121, 32, 100, 97, 121, 115, 32, 97, 103, 101, 32, 108, 97, 116, 101, 114]⟩ : ByteArray).data.toList = qL := by decide +kernel
def yT (l : List (List UInt8)) (x : List UInt8) : Int := idxOfS (l.map fun x => (⟨x.toArray⟩ : ByteArray)) (tb x)
theorem JF (l : List (List UInt8)) (x : List UInt8) : 0 ≤ yT l x ↔ x ∈ l := by
 unfold yT
 rw [idxOfS_nonneg_iff, List.mem_map]
 constructor
 ·
  rintro ⟨y, hy, e⟩
  rw [← uK (show tb y = tb x from e)]
  exact hy
 ·
  intro h
  exact ⟨x, h, rfl⟩
theorem YE (x : List UInt8) : (if 0 ≤ yT qL x ∧ x ≠ [45] then 12 + yT qL x else 0) = gm x := by
 by_cases h : x ∈ qL
 ·
  simp only [qL, List.mem_cons, List.not_mem_nil, or_false] at h
  rcases h with rfl | rfl | rfl | rfl | rfl | rfl | rfl | rfl | rfl | rfl | rfl | rfl | rfl | rfl | rfl | rfl | rfl | rfl | rfl | rfl | rfl | rfl | rfl | rfl | rfl | rfl | rfl | rfl <;> decide +kernel
 ·
  rw [if_neg (fun e => h ((JF _ _).1 e.1))]
  unfold gm
  rw [List.find?_eq_none.2 (fun p hp => ?_)]
  rw [decide_eq_true_iff]
  intro e
  have h1 : (uA.all fun p => qL.contains p.2) = true := by decide +kernel
  have h2 := List.all_eq_true.1 h1 p hp
  rw [List.contains_iff_mem, e] at h2
  exact h h2
theorem Oa (x : List UInt8) : (if 0 ≤ yT bY x then yT bY x + 1 else 0) = cZ x := by
 by_cases h : x ∈ bY
 ·
  simp only [bY, List.mem_cons, List.not_mem_nil, or_false] at h
  rcases h with rfl | rfl | rfl | rfl | rfl | rfl <;> decide +kernel
 ·
  rw [if_neg (fun e => h ((JF _ _).1 e))]
  unfold cZ
  rw [List.find?_eq_none.2 (fun p hp => ?_)]
  rw [decide_eq_true_iff]
  intro e
  have h1 : (([1, 2, 3, 4, 5, 6] : List Int).all fun p => bY.contains (pF p)) = true := by decide +kernel
  have h2 := List.all_eq_true.1 h1 p hp
  rw [List.contains_iff_mem, e] at h2
  exact h h2
theorem G5 (x : List UInt8) : containsS (bY.map fun x => (⟨x.toArray⟩ : ByteArray)) (tb x) = decide (cZ x ≠ 0) := by
 rw [← Oa]
 unfold containsS
 show decide (0 ≤ yT bY x) = _
 refine decide_eq_decide.2 ?_
 split
 ·
  omega
 ·
  omega
end Go.Proofs.YtobanldeicclmaaGreatDoor
