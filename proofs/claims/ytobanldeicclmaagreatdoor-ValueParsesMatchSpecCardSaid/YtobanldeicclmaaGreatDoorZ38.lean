/- Lemmas for the claim: walks and plain laws. -/
import Derived.Test.YtobanldeicclmaaGreatDoorZ37
import Derived.Test.YtobanldeicclmaaGreatDoorZ12
import Derived.Test.YtobanldeicclmaaGreatDoorZ33
import Derived.Test.YtobanldeicclmaaGreatDoorZ6
import Derived.Test.YtobanldeicclmaaGreatDoorZ21
import Derived.Test.YtobanldeicclmaaGreatDoorZ16
set_option maxHeartbeats 4000000
set_option maxRecDepth 100000
namespace Go.Proofs.YtobanldeicclmaaGreatDoor
open Go.RowKit Vtx
attribute [local go_sem ↓] Go.wp_at_zero Go.wp_at_succ
def Ku (w : World) (p : Ex × Nat × Int) (e : Ending) (w' : World) : Prop :=
 ∃ A1 c1 A2 c2, e = .returned (.tuple #[.agg (ai p.1 A1 c1 A2 c2).toArray, .int .i64 (p.2.1 : Nat), .int .i64 p.2.2]) ∧ dK w' (fun b => w.heap.size ≤ b) w'.heap.size p.1 (ai p.1 A1 c1 A2 c2) ∧ Below w.heap.size w w'
theorem Xp (w : World) (p : Nat → Prop) : dK w p w.heap.size (.mk 0 0 ⟨#[]⟩ je []) (ai (.mk 0 0 ⟨#[]⟩ je []) none 0 none 0) :=
 dK.mk (e := .mk 0 0 ⟨#[]⟩ je []) (cs := []) (show 0 ≤ maxLen from Nat.zero_le _) (show 0 ≤ maxLen from Nat.zero_le _) (show 0 ≤ maxLen from Nat.zero_le _) (show 0 ≤ maxLen from Nat.zero_le _) ⟨Reads.none_, fun _ ad e => by cases e⟩ ⟨Reads.none_, fun _ ad e => by cases e⟩ (fun i hi => absurd hi (by simp [Ex.ar]))
theorem kP {w w' : World} {at_ : Nat} {f : Int} (hb : Below w.heap.size w w') : Ku w (.mk 0 0 ⟨#[]⟩ je [], at_, f) (.returned (.tuple #[.agg #[.int .i64 0, .int .i64 0, .string ⟨#[]⟩, .int .i64 0, .int .i64 0, .string ⟨#[]⟩, .slice none 0 0, .slice none 0 0], .int .i64 (at_ : Nat), .int .i64 f])) w' :=
 ⟨none, 0, none, 0, rfl, Xp w' _, hb⟩
theorem jl {w w' : World} (h : Below w.heap.size w w') (v0 v1 v2 v3 v4 v5 v6 v7 : Value) : Below w.heap.size w (dU w' w.heap.size v0 v1 v2 v3 v4 v5 v6 v7) :=
 (((((((h.setCell (p := ⟨w.heap.size, 0, none⟩) (Nat.le_refl _) _).setCell (p := ⟨w.heap.size, 1, none⟩) (Nat.le_refl _) _).setCell (p := ⟨w.heap.size, 2, none⟩) (Nat.le_refl _) _).setCell (p := ⟨w.heap.size, 3, none⟩) (Nat.le_refl _) _).setCell (p := ⟨w.heap.size, 4, none⟩) (Nat.le_refl _) _).setCell (p := ⟨w.heap.size, 5, none⟩) (Nat.le_refl _) _).setCell (p := ⟨w.heap.size, 6, none⟩) (Nat.le_refl _) _).setCell (p := ⟨w.heap.size, 7, none⟩) (Nat.le_refl _) _
theorem FX (s : List UInt8) (h : s.length ≤ 4000) : nI s = (match Pz s.length .or [] (wordsOf s 0) with
  | .err k => (.mk 0 0 ⟨#[]⟩ je [], k, 10)
  | .ok _ (t :: _) => (.mk 0 0 ⟨#[]⟩ je [], t.at_, 10)
  | .ok es [] => if ik (es.getD 0 (.mk 0 0 ⟨#[]⟩ je [])) ≠ 0 then (.mk 0 0 ⟨#[]⟩ je [], 0, ik (es.getD 0 (.mk 0 0 ⟨#[]⟩ je []))) else (es.getD 0 (.mk 0 0 ⟨#[]⟩ je []), 0, 0)) := by
 unfold nI
 rw [if_neg (by omega), OH]
 obtain ⟨r, hr⟩ := ae (Pz s.length .or [] (wordsOf s 0))
 rw [hr]
 cases r with
 | err k => rfl
 | ok es l => cases l <;> rfl
theorem QO (s : ByteArray) (w : World) (hsm : s.size ≤ maxLen) (htab : Tab w) (hm : Mx w) (hp : s.size ≤ 4000 → ∀ x, Pz s.data.toList.length .or [] (wordsOf s.data.toList 0) = .ok [x] [] → x.parts ≤ 100000000) :
  Calls Tryz.prog 6 #[.string s] w fun e w' => Ku w (nI s.data.toList) e w' := by
 have DJ := qh (And.intro htab hm)
 clear htab hm
 by_cases hs : s.size ≤ 4000
 ·
  have Kv := qh (FX s.data.toList (by rw [ak]; exact hs))
  have HHP := qh (hp hs)
  obtain ⟨R, hR⟩ := ae (nI s.data.toList)
  rw [hR] at Kv ⊢
  obtain ⟨r, hr⟩ := ae (Pz s.data.toList.length .or [] (wordsOf s.data.toList 0))
  have HC := qh (fun W htab hm => QN s W hs htab hm)
  rw [hr] at Kv HC HHP
  have hsi : ¬ (4000 : Int) < ((s.size : Nat) : Int) := by omega
  clear hR hr hp
  go_enter Tryz.func6, Tryz.ntmps6
  go_upto_region 1 with (fail)
  obtain ⟨W, hW, -, fV, hszW, -, hbW⟩ := iV 0 w
  rw [← hW]
  clear hW
  go_wp2_with fail
  refine (HC.out W (DJ.out.1.below hbW) (DJ.out.2.below hbW)).mono ?_
  intro e w1 hrd
  cases r with
  | err k =>
   obtain ⟨rfl, hb1⟩ := hrd
   have hend : R = (.mk 0 0 ⟨#[]⟩ je [], k, 10) := Kv.out
   have eH := qh hend
   have yZ := hbW.trans (hb1.mono hbW.size)
   have BR1 := fV.out.below hb1 fV.out.lt
   clear hend hb1
   go_upto_region 4 with (fail)
   obtain ⟨W1, hW1⟩ := au (w1.alloc (.cells #[.int .i64 0, .int .i64 0, .string ⟨#[]⟩, .int .i64 0, .int .i64 0, .string ⟨#[]⟩, .slice none 0 0, .slice none 0 0] 27 (0, 0)))
   have hbw : Below w.heap.size w W1 := by rw [hW1]; exact yZ.alloc yZ.size _
   have iq : ZB W1 w.heap.size := by rw [hW1]; exact BR1.alloc _
   rw [← hW1]
   clear hW1
   obtain ⟨aQ, eX, aS, eY, aT, fD, aU, fE, aY, jR, aZ, jS, bu, jT, bz, jU⟩ := af.z8 iq
   go_wp2_with fail
   refine bodyPost_ret (v := .tuple #[.agg #[.int .i64 0, .int .i64 0, .string ⟨#[]⟩, .int .i64 0, .int .i64 0, .string ⟨#[]⟩, .slice none 0 0, .slice none 0 0], .int .i64 (k : Nat), .int .i64 10]) (by simp [results, Tryz.results6, go_sem, aQ, aS, aT, aU, aY, aZ, bu, bz]) rfl ?_
   rw [eH.out]
   exact kP (jl hbw _ _ _ _ _ _ _ _)
  | ok es l =>
   cases l with
   | cons t l =>
    obtain ⟨rfl, hb1⟩ := hrd
    have hend : R = (.mk 0 0 ⟨#[]⟩ je [], t.at_, 10) := Kv.out
    have eH := qh hend
    have yZ := hbW.trans (hb1.mono hbW.size)
    have BR1 := fV.out.below hb1 fV.out.lt
    clear hend hb1
    go_upto_region 4 with (fail)
    obtain ⟨W1, hW1⟩ := au (w1.alloc (.cells #[.int .i64 0, .int .i64 0, .string ⟨#[]⟩, .int .i64 0, .int .i64 0, .string ⟨#[]⟩, .slice none 0 0, .slice none 0 0] 27 (0, 0)))
    have hbw : Below w.heap.size w W1 := by rw [hW1]; exact yZ.alloc yZ.size _
    have iq : ZB W1 w.heap.size := by rw [hW1]; exact BR1.alloc _
    rw [← hW1]
    clear hW1
    obtain ⟨aQ, eX, aS, eY, aT, fD, aU, fE, aY, jR, aZ, jS, bu, jT, bz, jU⟩ := af.z8 iq
    go_wp2_with fail
    refine bodyPost_ret (v := .tuple #[.agg #[.int .i64 0, .int .i64 0, .string ⟨#[]⟩, .int .i64 0, .int .i64 0, .string ⟨#[]⟩, .slice none 0 0, .slice none 0 0], .int .i64 (t.at_ : Nat), .int .i64 10]) (by simp [results, Tryz.results6, go_sem, aQ, aS, aT, aU, aY, aZ, bu, bz]) rfl ?_
    rw [eH.out]
    exact kP (jl hbw _ _ _ _ _ _ _ _)
   | nil =>
    obtain ⟨x, cs, rfl, rfl, hx, hb1⟩ := hrd
    have hxp := HHP.out x rfl
    have HX := qh hx
    obtain ⟨hn, hs, hl, ha, hxx, hrr, hii⟩ := hx
    rename_i A1 c1 A2 c2 csi
    clear hxx hrr hii hn hs hl ha
    rw [show (ai x A1 c1 A2 c2).toArray = #[.int .i64 x.k, .int .i64 x.op, .string x.nm, .int .i64 x.v.k, .int .i64 x.v.n, .string x.v.s, .slice A1 x.v.l.length c1, .slice A2 x.ar.length c2] from rfl]
    have yZ := hbW.trans (hb1.mono hbW.size)
    have eG := qh (fV.out.below hb1 fV.out.lt)
    have hsz1 : W.heap.size ≤ w1.heap.size := hb1.size
    clear hb1
    go_upto_region 4 with (fail)
    obtain ⟨W1, hW1⟩ := au (w1.alloc (.cells #[.int .i64 x.k, .int .i64 x.op, .string x.nm, .int .i64 x.v.k, .int .i64 x.v.n, .string x.v.s, .slice A1 x.v.l.length c1, .slice A2 x.ar.length c2] 27 (0, 0)))
    have hbw : Below w.heap.size w W1 := by rw [hW1]; exact yZ.alloc yZ.size _
    have LY := qh (show ZB W1 w.heap.size by rw [hW1]; exact eG.out.alloc _)
    have ZH := qh (show af W1 w1.heap.size 27 #[.int .i64 x.k, .int .i64 x.op, .string x.nm, .int .i64 x.v.k, .int .i64 x.v.n, .string x.v.s, .slice A1 x.v.l.length c1, .slice A2 x.ar.length c2] by rw [hW1]; exact af.new w1 _ _)
    have XR := qh (show dK W1 (fun b => W.heap.size ≤ b) W1.heap.size x (ai x A1 c1 A2 c2) by
     rw [hW1]
     exact (HX.out.keep (dG.of ((Below.refl _ _).alloc (Nat.le_refl _) _))).up (by simp))
    rw [← hW1]
    clear hW1 yZ
    have BX := ZH.out
    obtain ⟨Qs, Qu, Qv, Qw, Qx, Qy, Qz, QA⟩ := af.c8 BX
    go_wp2_with fail
    refine (DY x W1.heap.size (ai x A1 c1 A2 c2) W1 XR.out.at_ (Nat.le_refl _) hxp).mono ?_
    rintro e w2 ⟨rfl, hb2⟩
    obtain ⟨f, hf⟩ := ae (ik x)
    have Kv := qh (show R = if f ≠ 0 then (.mk 0 0 ⟨#[]⟩ je [], 0, f) else (x, 0, 0) from by rw [Kv.out]; show (if ik x ≠ 0 then (((.mk 0 0 ⟨#[]⟩ je [] : Ex), 0, ik x) : Ex × Nat × Int) else (x, 0, 0)) = _; rw [hf])
    rw [hf]
    have hbw2 := hbw.trans (hb2.mono hbw.size)
    have iq := LY.out.below hb2 LY.out.lt
    have BX2 := ZH.out.below hb2 ZH.out.lt
    have Ii := qh ((XR.out.keep (dG.of hb2)).up hb2.size)
    clear hf hb2 Qs Qu Qv Qw Qx Qy Qz QA BX
    by_cases hf0 : f = 0
    ·
     subst hf0
     have hend : R = (x, 0, 0) := by rw [Kv.out, if_neg (by decide)]
     obtain ⟨Qs, Qu, Qv, Qw, Qx, Qy, Qz, QA⟩ := af.c8 BX2
     obtain ⟨aQ, eX, aS, eY, aT, fD, aU, fE, aY, jR, aZ, jS, bu, jT, bz, jU⟩ := af.z8 iq
     go_wp2_with fail
     refine bodyPost_ret (v := .tuple #[.agg #[.int .i64 x.k, .int .i64 x.op, .string x.nm, .int .i64 x.v.k, .int .i64 x.v.n, .string x.v.s, .slice A1 x.v.l.length c1, .slice A2 x.ar.length c2], .int .i64 0, .int .i64 0]) (by simp [results, Tryz.results6, go_sem, aQ, aS, aT, aU, aY, aZ, bu, bz]) rfl ?_
     rw [hend]
     exact ⟨A1, c1, A2, c2, rfl, (vM (b := w.heap.size) Ii.out (fun k hk => by omega) (.int .i64 x.k) (.int .i64 x.op) (.string x.nm) (.int .i64 x.v.k) (.int .i64 x.v.n) (.string x.v.s) (.slice A1 x.v.l.length c1) (.slice A2 x.ar.length c2)).imp (fun k hk _ => by omega), jl hbw2 _ _ _ _ _ _ _ _⟩
    ·
     have bf : (f == 0) = false := by simp [hf0]
     have hend : R = (.mk 0 0 ⟨#[]⟩ je [], 0, f) := by rw [Kv.out, if_pos hf0]
     obtain ⟨aQ, eX, aS, eY, aT, fD, aU, fE, aY, jR, aZ, jS, bu, jT, bz, jU⟩ := af.z8 iq
     go_wp2_with fail
     refine bodyPost_ret (v := .tuple #[.agg #[.int .i64 0, .int .i64 0, .string ⟨#[]⟩, .int .i64 0, .int .i64 0, .string ⟨#[]⟩, .slice none 0 0, .slice none 0 0], .int .i64 0, .int .i64 f]) (by simp [results, Tryz.results6, go_sem, aQ, aS, aT, aU, aY, aZ, bu, bz]) rfl ?_
     rw [hend]
     exact kP (at_ := 0) (jl hbw2 _ _ _ _ _ _ _ _)
 ·
  have Kv := qh (show nI s.data.toList = (.mk 0 0 ⟨#[]⟩ je [], 0, 2) by unfold nI; rw [if_pos (by rw [ak]; omega)])
  have hsi : (4000 : Int) < ((s.size : Nat) : Int) := by omega
  obtain ⟨R, hR⟩ := ae (nI s.data.toList)
  rw [hR] at Kv ⊢
  clear hR hp
  go_enter Tryz.func6, Tryz.ntmps6
  go_upto_region 1 with (fail)
  obtain ⟨W, hW, -, iq, -, -, hbW⟩ := dY 0 w
  rw [← hW]
  clear hW
  obtain ⟨aQ, eX, aS, eY, aT, fD, aU, fE, aY, jR, aZ, jS, bu, jT, bz, jU⟩ := af.z8 iq
  go_wp2_with fail
  refine bodyPost_ret (v := .tuple #[.agg #[.int .i64 0, .int .i64 0, .string ⟨#[]⟩, .int .i64 0, .int .i64 0, .string ⟨#[]⟩, .slice none 0 0, .slice none 0 0], .int .i64 0, .int .i64 2]) (by simp [results, Tryz.results6, go_sem, aQ, aS, aT, aU, aY, aZ, bu, bz]) rfl ?_
  rw [Kv.out]
  exact kP (at_ := 0) (jl hbW _ _ _ _ _ _ _ _)
theorem Kw {w w' W : World} {g : Nat} (h : Below w.heap.size w W) (hk : Kp g W w') (hg : w.heap.size ≤ g) : Below w.heap.size w w' := h.trans (hk.below hg h.size)
theorem Nq (s : ByteArray) (w : World) (hsm : s.size ≤ maxLen) (htab : Tab w) (hm : Mx w) (he : Er w) (hsp : Sp w) (hp : s.size ≤ 4000 → ∀ x, Pz s.data.toList.length .or [] (wordsOf s.data.toList 0) = .ok [x] [] → x.parts ≤ 1000000) :
  Calls Tryz.prog 8 #[.string s] w fun e w' => Ku w (nI s.data.toList) e w' := by
 have DJ := qh (show Tab w ∧ Mx w ∧ Er w ∧ Sp w from ⟨htab, hm, he, hsp⟩)
 clear htab hm he hsp
 obtain ⟨R, hR⟩ := ae (nI s.data.toList)
 by_cases hs : s.size ≤ 4000
 ·
  have Kv := qh (hR.symm.trans (FX s.data.toList (by rw [ak]; exact hs)))
  have HHP := qh (hp hs)
  have HZ := qh hs
  rw [hR]
  have hsi : ¬ (4000 : Int) < ((s.size : Nat) : Int) := by omega
  obtain ⟨L, hL⟩ := ae (wordsOf s.data.toList 0)
  have HL := qh hL
  have lh := qh (fun W => Lr s W hs)
  rw [hL] at lh
  have hLl : L.length ≤ 4000 := by
   have h := qU s.data.toList (s.data.toList.length + 1) 0
   have e1 : (toks s.data.toList (s.data.toList.length + 1) 0).length = L.length := by rw [← hL]; rfl
   rw [e1, ak] at h
   omega
  clear hR hp hL
  go_enter Tryz.func8, Tryz.ntmps8
  go_upto_region 1 with (fail)
  obtain ⟨W, hW, -, fV, hszW, -, hbW⟩ := iV 0 w
  rw [← hW]
  clear hW
  go_upto_region 4 with (go_at_call 14; (with_reducible refine (lh.out W).mono ?_); rintro e w1 ⟨A, c, rfl, hown, hb1⟩; have HOW := qh hown; have HB1 := qh hb1; clear hown hb1)
  have hb1 := HB1.out
  obtain ⟨W1, hW1⟩ := au (w1.alloc (.cells #[.slice A L.length c, .int .i64 (s.size : Nat), .bool false, .int .i64 0] 44 (0, 0)))
  obtain ⟨g, hg⟩ := ae (w1.heap.size)
  have aeX := hb1.size
  have hbW1 : Below w.heap.size w W1 := by rw [hW1]; exact (hbW.trans (hb1.mono hbW.size)).alloc (Nat.le_trans hbW.size aeX) _
  have hgw : w.heap.size < g := by omega
  have HAT := qh (show dQ W1 g s (.at_ L) by
   refine ⟨⟨⟨A, c, ?_, ?_, ?_⟩, by omega⟩, 0, Nat.zero_le _, HL.out.symm⟩
   ·
    rw [hW1, ← hg]; exact af.new w1 _ _
   ·
    have hr := Reads.uq HOW.out
    have h1 : mV w1 (fun b => b < g) w1.heap.size 2 A L.length (iT L) := ⟨hr, fun h0 ad e => by
     obtain ⟨ad', e', hB, -⟩ := hr.2 (by omega)
     rw [e] at e'
     injection e' with e'
     rw [e', ← hg]
     exact hB⟩
    exact (h1.keep (dG.of (by rw [hW1]; exact (Below.refl _ _).alloc (Nat.le_refl _) _))).up (by rw [hW1]; simp)
   ·
    rcases HOW.out.2 with ⟨h0, -⟩ | ⟨g', cap, cur, e0, -, -, e3, -⟩
    ·
     injection h0 with _ h1 h2
     omega
    ·
     injection e0 with _ _ e5
     have e3' := e3
     omega)
  have Hu := qh (show TR W1 g from ⟨w, DJ.out.1, DJ.out.2.1, DJ.out.2.2.1, DJ.out.2.2.2, by omega, hbW1⟩)
  have eG := qh (show ZB W1 w.heap.size by rw [hW1]; exact (fV.out.below hb1 fV.out.lt).alloc _)
  have CG : W1.heap.size = w1.heap.size + 1 := by rw [hW1]; simp
  rw [hg, ← hW1]
  clear hW1 hb1
  have HOR := qh (abx s HZ.out _ (.at_ L) (Nat.le_refl _) g W1 HAT.out Hu.out)
  obtain ⟨r, hr⟩ := ae ((RM.at_ L).P s.data.toList.length .or)
  rw [hr] at HOR
  have HR := qh (show Pz s.data.toList.length .or [] (wordsOf s.data.toList 0) = r by rw [HL.out]; exact hr)
  rw [HR.out] at Kv HHP
  clear hr
  go_wp2_with fail
  refine HOR.out.mono ?_
  rintro e w2 ⟨gu, gy, gz, gG, gI, gJ, gK, gQ, gU, gV, gW, gX, rfl, hs2, hk2, hx2⟩
  have hsz2 := hk2.size
  obtain ⟨W2, hW2⟩ := au (w2.alloc (.cells #[.int .i64 gu, .int .i64 gy, .string gz, .int .i64 gG, .int .i64 gI, .string gJ, .slice gK gQ gU, .slice gV gW gX] 27 (0, 0)))
  have HS2 := qh (show dQ W2 g s (aX r) by rw [hW2]; exact hs2.alloc _)
  have HKG := qh (show Kp g W1 W2 by rw [hW2]; exact hk2.alloc _)
  have iC := qh (eG.out.kp HKG.out (by omega))
  have QP := qh (show af W2 w2.heap.size 27 #[.int .i64 gu, .int .i64 gy, .string gz, .int .i64 gG, .int .i64 gI, .string gJ, .slice gK gQ gU, .slice gV gW gX] by rw [hW2]; exact af.new w2 _ _)
  have Ii := qh (show RX (fun b => W1.heap.size ≤ b) W2 r [.int .i64 gu, .int .i64 gy, .string gz, .int .i64 gG, .int .i64 gI, .string gJ, .slice gK gQ gU, .slice gV gW gX] by
   rw [hW2]
   exact hx2.keep (dG.of ((Below.refl _ _).alloc (Nat.le_refl _) _)))
  have QQ := qh (show Below w.heap.size w W2 from Kw hbW1 HKG.out (by omega))
  have zH : W2.heap.size = w2.heap.size + 1 := by rw [hW2]; simp
  clear hs2 hk2 hx2
  go_upto_region 5 with (fail)
  rw [← hW2]
  clear hW2
  cases r with
  | err k =>
   have hbk : DN W2 g s.size k := HS2.out
   have g0 : W2.cell? ⟨g, 0, none⟩ = some (.slice none 0 0) := af.cell hbk 0
   have g2 : W2.cell? ⟨g, 2, none⟩ = some (.bool true) := af.cell hbk 2
   have g3 : W2.cell? ⟨g, 3, none⟩ = some (.int .i64 (k : Nat)) := af.cell hbk 3
   have iq := iC.out
   clear hbk
   obtain ⟨aQ, eX, aS, eY, aT, fD, aU, fE, aY, jR, aZ, jS, bu, jT, bz, jU⟩ := af.z8 iq
   have hgr : g ≠ w.heap.size := by omega
   go_upto_region 8 with (fail)
   go_region
   all_goals
    go_wp2_with fail
    refine bodyPost_ret (v := .tuple #[.agg #[.int .i64 0, .int .i64 0, .string ⟨#[]⟩, .int .i64 0, .int .i64 0, .string ⟨#[]⟩, .slice none 0 0, .slice none 0 0], .int .i64 (k : Nat), .int .i64 10]) (by simp [results, Tryz.results8, go_sem, aQ, aS, aT, aU, aY, aZ, bu, bz]) rfl ?_
    have hend : R = (.mk 0 0 ⟨#[]⟩ je [], k, 10) := Kv.out
    rw [hend]
    exact kP (jl QQ.out _ _ _ _ _ _ _ _).drew
  | ok es l =>
   cases l with
   | cons t l =>
    obtain ⟨hra, -⟩ := HS2.out
    obtain ⟨ad, c2, hb, hc, -, -, -⟩ := hra.head
    have g0 : W2.cell? ⟨g, 0, none⟩ = some (.slice (some ad) (l.length + 1) c2) := hb.cell 0
    have hpos : (0 : Int) < ((l.length + 1 : Nat) : Int) := by omega
    have agz : (0 : Int) < (l.length : Int) + 1 := by omega
    have kY := qh (kX (show dQ W2 g s (.at_ (t :: l)) from HS2.out))
    obtain ⟨pv, hpv⟩ := ae (tb ((RM.at_ (t :: l)).pk s.size).1)
    rw [hpv, show ((RM.at_ (t :: l)).pk s.size).2 = t.at_ from rfl] at kY
    have Kt := qh (show dQ W2 g s (.at_ (t :: l)) from HS2.out)
    clear hpv hra hb
    go_wp2_with fail
    refine kY.out.mono ?_
    rintro e w3 ⟨rfl, hb3⟩
    have HB3 := qh hb3
    have hsz3 := hb3.size
    have aeY : dQ w3 g s (.at_ (t :: l)) := Kt.out.below HB3.out
    have wG := qh (JC aeY pv t.at_)
    have qO := qh (iC.out.below hb3 iC.out.lt)
    clear hb3
    go_wp2_with fail
    refine wG.out.mono ?_
    rintro e w4 ⟨rfl, hs4, hk4⟩
    have hbk : DN w4 g s.size t.at_ := hs4
    have g0' : w4.cell? ⟨g, 0, none⟩ = some (.slice none 0 0) := af.cell hbk 0
    have g2 : w4.cell? ⟨g, 2, none⟩ = some (.bool true) := af.cell hbk 2
    have g3 : w4.cell? ⟨g, 3, none⟩ = some (.int .i64 (t.at_ : Nat)) := af.cell hbk 3
    have iq := qO.out.kp hk4 (by omega)
    have aeZ := qh (Kw (QQ.out.trans (HB3.out.mono QQ.out.size)) hk4 (by omega))
    clear hbk hs4 hk4 g0
    obtain ⟨aQ, eX, aS, eY, aT, fD, aU, fE, aY, jR, aZ, jS, bu, jT, bz, jU⟩ := af.z8 iq
    have hgr : g ≠ w.heap.size := by omega
    go_upto_region 8 with (fail)
    go_region
    all_goals
     go_wp2_with fail
     refine bodyPost_ret (v := .tuple #[.agg #[.int .i64 0, .int .i64 0, .string ⟨#[]⟩, .int .i64 0, .int .i64 0, .string ⟨#[]⟩, .slice none 0 0, .slice none 0 0], .int .i64 (t.at_ : Nat), .int .i64 10]) (by simp [results, Tryz.results8, go_sem, aQ, aS, aT, aU, aY, aZ, bu, bz]) rfl ?_
     have hend : R = (.mk 0 0 ⟨#[]⟩ je [], t.at_, 10) := Kv.out
     rw [hend]
     exact kP (jl aeZ.out _ _ _ _ _ _ _ _).drew
   | nil =>
    obtain ⟨hra, -⟩ := HS2.out
    obtain ⟨gA, gc, hb, -⟩ := hra.ex
    have g0 : W2.cell? ⟨g, 0, none⟩ = some (.slice gA 0 gc) := hb.cell 0
    have g2 : W2.cell? ⟨g, 2, none⟩ = some (.bool false) := hb.cell 2
    obtain ⟨x, rfl, hx⟩ := Ii.out es [] rfl
    have hxp := HHP.out x rfl
    have HX := qh hx
    obtain ⟨KW, c1', A2', c2', hcs⟩ := rE hx
    have HCS := qh hcs
    have hsp2 : Sp W2 := bD DJ.out.2.2.2 QQ.out
    have PS := qh (Bz x W2.heap.size [.int .i64 gu, .int .i64 gy, .string gz, .int .i64 gG, .int .i64 gI, .string gJ, .slice gK gQ gU, .slice gV gW gX] W2 hx.at_ (Nat.le_refl _) hxp hsp2)
    rw [show ([.int .i64 gu, .int .i64 gy, .string gz, .int .i64 gG, .int .i64 gI, .string gJ, .slice gK gQ gU, .slice gV gW gX] : List Value).toArray = #[.int .i64 gu, .int .i64 gy, .string gz, .int .i64 gG, .int .i64 gI, .string gJ, .slice gK gQ gU, .slice gV gW gX] from rfl] at PS
    obtain ⟨f, hf⟩ := ae (ik x)
    rw [hf] at PS
    have HF := qh hf
    have BE2 := QP.out
    clear hra hb hx hxp hcs hsp2 hf
    obtain ⟨CJ, CO, Ea, Eb, Ec, Ed, Ee, Ef⟩ := af.c8 BE2
    go_wp2_with fail
    refine PS.out.mono ?_
    rintro e w3 ⟨rfl, hb3⟩
    have iq := iC.out.below hb3 iC.out.lt
    have B3 := QP.out.below hb3 QP.out.lt
    have hbw := QQ.out.trans (hb3.mono QQ.out.size)
    have abP := qh hbw
    have HB3 := qh hb3
    clear hb3 CJ CO Ea Eb Ec Ed Ee Ef
    obtain ⟨CJ, CO, Ea, Eb, Ec, Ed, Ee, Ef⟩ := af.c8 B3
    obtain ⟨aQ, eX, aS, eY, aT, fD, aU, fE, aY, jR, aZ, jS, bu, jT, bz, jU⟩ := af.z8 iq
    by_cases h0 : f = 0
    ·
     subst h0
     have hend : R = (x, 0, 0) := by
      rw [Kv.out]
      show (if ik x ≠ 0 then _ else _) = _
      rw [if_neg (by rw [HF.out]; decide)]
      rfl
     have eH := qh hend
     clear hend
     go_wp2_with fail
     refine bodyPost_ret (v := .tuple #[.agg #[.int .i64 gu, .int .i64 gy, .string gz, .int .i64 gG, .int .i64 gI, .string gJ, .slice gK gQ gU, .slice gV gW gX], .int .i64 ((0 : Nat) : Int), .int .i64 0]) (by simp [results, Tryz.results8, go_sem, aQ, aS, aT, aU, aY, aZ, bu, bz]) rfl ?_
     rw [eH.out]
     have e1 : (#[.int .i64 gu, .int .i64 gy, .string gz, .int .i64 gG, .int .i64 gI, .string gJ, .slice gK gQ gU, .slice gV gW gX] : Array Value) = (ai x KW c1' A2' c2').toArray := by rw [← HCS.out]
     refine ⟨KW, c1', A2', c2', by rw [e1], ?_, jl abP.out _ _ _ _ _ _ _ _⟩
     rw [← HCS.out]
     have h1 := (HX.out.keep (dG.of HB3.out)).up HB3.out.size
     have h2 := vM (b := w.heap.size) h1 (fun k hk => by omega) (.int .i64 gu) (.int .i64 gy) (.string gz) (.int .i64 gG) (.int .i64 gI) (.string gJ) (.slice gK gQ gU) (.slice gV gW gX)
     exact h2.imp (fun k hk _ => by omega)
    ·
     have hend : R = (.mk 0 0 ⟨#[]⟩ je [], 0, f) := by
      rw [Kv.out]
      show (if ik x ≠ 0 then _ else _) = _
      rw [if_pos (by rw [HF.out]; exact h0)]
      show (_, _, ik x) = _
      rw [HF.out]
     have eH := qh hend
     have bf : (f != 0) = true := by simpa using h0
     clear hend h0
     go_wp2_with fail
     refine bodyPost_ret (v := .tuple #[.agg #[.int .i64 0, .int .i64 0, .string ⟨#[]⟩, .int .i64 0, .int .i64 0, .string ⟨#[]⟩, .slice none 0 0, .slice none 0 0], .int .i64 ((0 : Nat) : Int), .int .i64 f]) (by simp [results, Tryz.results8, go_sem, aQ, aS, aT, aU, aY, aZ, bu, bz]) rfl ?_
     rw [eH.out]
     exact kP (jl abP.out _ _ _ _ _ _ _ _)
 ·
  have hsi : (4000 : Int) < ((s.size : Nat) : Int) := by omega
  have eH := qh (show R = (.mk 0 0 ⟨#[]⟩ je [], 0, 2) by
   rw [← hR]
   unfold nI
   rw [if_pos (by rw [ak]; omega)])
  rw [hR]
  clear hR hp hs
  go_enter Tryz.func8, Tryz.ntmps8
  go_upto_region 1 with (fail)
  obtain ⟨W, hW, -, iq, -, -, hbw⟩ := dY 0 w
  rw [← hW]
  clear hW
  obtain ⟨aQ, eX, aS, eY, aT, fD, aU, fE, aY, jR, aZ, jS, bu, jT, bz, jU⟩ := af.z8 iq
  go_wp2_with fail
  refine bodyPost_ret (v := .tuple #[.agg #[.int .i64 0, .int .i64 0, .string ⟨#[]⟩, .int .i64 0, .int .i64 0, .string ⟨#[]⟩, .slice none 0 0, .slice none 0 0], .int .i64 ((0 : Nat) : Int), .int .i64 2]) (by simp [results, Tryz.results8, go_sem, aQ, aS, aT, aU, aY, aZ, bu, bz]) rfl ?_
  rw [eH.out]
  exact kP (jl hbw _ _ _ _ _ _ _ _)
end Go.Proofs.YtobanldeicclmaaGreatDoor
namespace Go.Proofs.YtobanldeicclmaaGreatDoor
open Vtx Go.Lib
theorem lQ : ∀ a b : List Ex, aI (a ++ b) = aI a + aI b
 | [], b => by rw [List.nil_append, aI]; omega
 | x :: r, b => by rw [List.cons_append, aI, aI, lQ r b]; omega
theorem dZ (x : Ex) : aI [x] = x.parts := by rw [aI, aI]; omega
theorem pW (o : Int) (l : List Ex) : (bQ o l).parts = aI l + 1 := parts_eq _
theorem tK (k o : Int) (nm : List UInt8) (l : List Ex) : (bP k o nm l).parts = aI l + 1 := parts_eq _
theorem zK (v : Val) : (dX v).parts = 1 := by rw [parts_eq]; show aI [] + 1 = 1; rw [aI]
theorem xE : aI [] = 0 := by rw [aI]
theorem DF (o : Int) (l : List Ex) : aI (pG o l) ≤ aI l + 1 := by
 unfold pG
 split
 ·
  rw [dZ]; omega
 ·
  rw [dZ, pW]; omega
theorem gY {r : jO} {k : List Ex → List Tok → jO} {es : List Ex} {l' : List Tok} (h : r.bind k = .ok es l') : ∃ es1 l1, r = .ok es1 l1 ∧ k es1 l1 = .ok es l' := by
 cases r with
 | err p => cases h
 | ok es1 l1 => exact ⟨es1, l1, rfl, h⟩
theorem yc {l : List Tok} {w : List UInt8} (h : kU l w = true) : l.tail.length + 1 = l.length := by
 cases l with
 | nil => cases h
 | cons t r => rfl
theorem rM {n : Nat} {w : List UInt8} {l : List Tok} {k : List Tok → jO} {es : List Ex} {l' : List Tok} (h : aN n w l k = .ok es l') : l.tail.length + 1 = l.length ∧ k l.tail = .ok es l' := by
 unfold aN at h
 split at h
 ·
  rename_i hw
  exact ⟨yc hw, h⟩
 ·
  cases h
theorem DI {a b : Int} {l : List Tok} (h : bJ a b l ≠ 0) : l.tail.length + 1 = l.length := by
 cases l with
 | nil => exact absurd rfl (xm h)
 | cons t r => rfl
def qP : NT → Nat
 | .or => 2
 | .args _ => 2
 | .and => 3
 | .Ia => 0
 | .tZ => 0
 | .uf => 0
 | .fH => 0
 | .lS _ => 0
 | _ => 4
def qQ (nt : NT) (acc : List Ex) : Nat := match nt with
 | .Ia => aI acc + 1
 | .tZ => aI acc + 1
 | .uf => aI acc
 | .fH => aI acc
 | .lS _ => aI acc
 | _ => 0
theorem Oq (n : Nat) : ∀ (f : Nat) (nt : NT) (acc : List Ex) (l : List Tok) (es : List Ex) (l' : List Tok), P n f nt acc l = .ok es l' → aI es + qP nt + 6 * l'.length ≤ qQ nt acc + 6 * l.length
 | 0, _, _, _, _, _, h => by cases h
 | f + 1, nt, acc, l, es, l', h => by
  have ih := Oq n f
  rw [P] at h
  cases nt <;> dsimp only [dB] at h <;> dsimp only [qP, qQ]
  case or =>
   obtain ⟨e1, l1, h1, h2⟩ := gY h
   have i1 := ih _ _ _ _ _ h1
   have i2 := ih _ _ _ _ _ h2
   dsimp only [qP, qQ] at i1 i2
   omega
  case Ia =>
   split at h
   ·
    rename_i hw
    have hl := yc hw
    obtain ⟨e1, l1, h1, h2⟩ := gY h
    have i1 := ih _ _ _ _ _ h1
    have i2 := ih _ _ _ _ _ h2
    dsimp only [qP, qQ] at i1 i2
    rw [lQ] at i2
    omega
   ·
    injection h with h1 h2
    have := DF 3 acc
    rw [← h1, ← h2]
    omega
  case and =>
   obtain ⟨e1, l1, h1, h2⟩ := gY h
   have i1 := ih _ _ _ _ _ h1
   have i2 := ih _ _ _ _ _ h2
   dsimp only [qP, qQ] at i1 i2
   omega
  case tZ =>
   split at h
   ·
    rename_i hw
    have hl := yc hw
    obtain ⟨e1, l1, h1, h2⟩ := gY h
    have i1 := ih _ _ _ _ _ h1
    have i2 := ih _ _ _ _ _ h2
    dsimp only [qP, qQ] at i1 i2
    rw [lQ] at i2
    omega
   ·
    injection h with h1 h2
    have := DF 2 acc
    rw [← h1, ← h2]
    omega
  case not =>
   split at h
   ·
    rename_i hw
    have hl := yc hw
    obtain ⟨e1, l1, h1, h2⟩ := gY h
    have i1 := ih _ _ _ _ _ h1
    dsimp only [qP, qQ] at i1
    injection h2 with h2 h3
    rw [← h2, ← h3, dZ, pW]
    omega
   ·
    obtain ⟨e1, l1, h1, h2⟩ := gY h
    have i1 := ih _ _ _ _ _ h1
    dsimp only [qP, qQ] at i1
    split at h2
    ·
     injection h2 with h2 h3
     rw [← h2, ← h3]
     omega
    ·
     rename_i hs
     have hl := DI hs
     obtain ⟨e2, l2, h3, h4⟩ := gY h2
     have i2 := ih _ _ _ _ _ h3
     dsimp only [qP, qQ] at i2
     injection h4 with h4 h5
     rw [← h4, ← h5, dZ, pW, lQ]
     omega
  case sum =>
   obtain ⟨e1, l1, h1, h2⟩ := gY h
   have i1 := ih _ _ _ _ _ h1
   have i2 := ih _ _ _ _ _ h2
   dsimp only [qP, qQ] at i1 i2
   omega
  case uf =>
   split at h
   ·
    injection h with h1 h2
    rw [← h1, ← h2]
    omega
   ·
    rename_i hs
    have hl := DI hs
    obtain ⟨e1, l1, h1, h2⟩ := gY h
    have i1 := ih _ _ _ _ _ h1
    have i2 := ih _ _ _ _ _ h2
    dsimp only [qP, qQ] at i1 i2
    rw [dZ, pW, lQ] at i2
    omega
  case product =>
   obtain ⟨e1, l1, h1, h2⟩ := gY h
   have i1 := ih _ _ _ _ _ h1
   have i2 := ih _ _ _ _ _ h2
   dsimp only [qP, qQ] at i1 i2
   omega
  case fH =>
   split at h
   ·
    injection h with h1 h2
    rw [← h1, ← h2]
    omega
   ·
    rename_i hs
    have hl := DI hs
    obtain ⟨e1, l1, h1, h2⟩ := gY h
    have i1 := ih _ _ _ _ _ h1
    have i2 := ih _ _ _ _ _ h2
    dsimp only [qP, qQ] at i1 i2
    rw [dZ, pW, lQ] at i2
    omega
  case minus =>
   split at h
   ·
    rename_i hw
    have hl := yc hw
    split at h
    ·
     split at h
     ·
      split at h
      ·
       injection h with h1 h2
       rw [← h1, ← h2, dZ, zK]
       simp only [List.length_cons]
       omega
      ·
       cases h
     ·
      cases h
    ·
     obtain ⟨e1, l1, h1, h2⟩ := gY h
     have i1 := ih _ _ _ _ _ h1
     dsimp only [qP, qQ] at i1
     injection h2 with h2 h3
     rw [← h2, ← h3, dZ, pW]
     omega
   ·
    have i1 := ih _ _ _ _ _ h
    dsimp only [qP, qQ] at i1
    omega
  case az =>
   split at h
   ·
    cases h
   ·
    rename_i t r
    rw [List.length_cons]
    split at h
    ·
     cases h
    split at h
    ·
     split at h
     ·
      injection h with h1 h2
      rw [← h1, ← h2, dZ, zK]
      omega
     ·
      cases h
    split at h
    ·
     obtain ⟨e1, l1, h1, h2⟩ := gY h
     have i1 := ih _ _ _ _ _ h1
     dsimp only [qP, qQ] at i1
     obtain ⟨hl, h3⟩ := rM h2
     injection h3 with h3 h4
     rw [← h3, ← h4]
     omega
    split at h
    ·
     cases h
    split at h
    ·
     injection h with h1 h2
     rw [← h1, ← h2, dZ, tK, xE]
     omega
    rename_i hcd
    have hrt : r.tail.length + 1 = r.length := by
     cases r with
     | nil => exact absurd rfl hcd
     | cons u r' => rfl
    split at h
    ·
     split at h
     ·
      cases h
     ·
      obtain ⟨hl, h3⟩ := rM h
      obtain ⟨e1, l1, h1, h2⟩ := gY h3
      have i1 := ih _ _ _ _ _ h1
      dsimp only [qP, qQ] at i1
      obtain ⟨hl2, h5⟩ := rM h2
      injection h5 with h5 h6
      rw [← h5, ← h6, dZ, tK]
      have hx : r.tail.tail.length ≤ r.tail.length := by rw [List.length_tail]; omega
      omega
    split at h
    ·
     obtain ⟨e1, l1, h1, h2⟩ := gY h
     have i1 := ih _ _ _ _ _ h1
     dsimp only [qP, qQ] at i1
     obtain ⟨hl2, h5⟩ := rM h2
     injection h5 with h5 h6
     rw [← h5, ← h6, dZ, pW]
     omega
    split at h
    ·
     split at h
     ·
      cases h
     ·
      obtain ⟨hl, h3⟩ := rM h
      injection h3 with h5 h6
      rw [← h5, ← h6, dZ, tK, xE]
      have hx : r.tail.tail.length ≤ r.tail.length := by rw [List.length_tail]; omega
      omega
    ·
     injection h with h1 h2
     rw [← h1, ← h2, dZ, tK, xE]
     omega
  case args =>
   obtain ⟨e1, l1, h1, h2⟩ := gY h
   have i1 := ih _ _ _ _ _ h1
   have i2 := ih _ _ _ _ _ h2
   dsimp only [qP, qQ] at i1 i2
   omega
  case lS =>
   split at h
   ·
    obtain ⟨hl, h3⟩ := rM h
    obtain ⟨e1, l1, h1, h2⟩ := gY h3
    have i1 := ih _ _ _ _ _ h1
    have i2 := ih _ _ _ _ _ h2
    dsimp only [qP, qQ] at i1 i2
    rw [lQ] at i2
    omega
   ·
    injection h with h1 h2
    rw [← h1, ← h2]
    omega
theorem Nr {s : List UInt8} (hs : s.length ≤ 4000) {x : Ex} (h : Pz s.length .or [] (wordsOf s 0) = .ok [x] []) : x.parts ≤ 100000 := by
 have h1 := Oq _ _ _ _ _ _ _ h
 have h2 := qU s (s.length + 1) 0
 have h3 : (toks s (s.length + 1) 0).length = (wordsOf s 0).length := rfl
 rw [dZ] at h1
 dsimp only [qP, qQ] at h1
 rw [h3] at h2
 simp at h1
 omega
end Go.Proofs.YtobanldeicclmaaGreatDoor
