/- The walk of divideStep: it takes v from the window of the caller's own row as often as it is in it. -/
import Derived.Test.YtpanbeoelbhhgaaGreatDoorY5
import Derived.Deep.Light
import Derived.Deep.CutBlock
import Derived.Deep.DeepCutAuto
namespace Go.Proofs.YtpanbeoelbhhgaaGreatDoor
open Go.RowKit Limb
theorem grown_trans {a b c : World} {row : Option Nat} (h : a.grownBy b row) (k : b.grownBy c row) : a.grownBy c row :=
  ⟨k.os.trans h.os, k.tape.trans h.tape, k.output.trans h.output, Nat.le_trans h.size k.size, fun i hi hn => (k.block i (Nat.lt_of_lt_of_le hi h.size) hn).trans (h.block i hi hn)⟩
theorem grown_drew {a b : World} {row : Option Nat} (h : a.grownBy b row) (n : Nat) : a.grownBy (b.drewN n) row := ⟨h.os, h.tape, h.output, h.size, h.block⟩
theorem reads_row {w w' : World} {B' g n : Nat} {A : Option Addr} {xs : List Value} (h : Reads w B' 1 A n xs) (hne : ∀ ad, A = some ad → ad.block ≠ g) (hg : w.grownBy w' (some g)) : Reads w' B' 1 A n xs := by
  refine ⟨h.1, fun h0 => ?_⟩
  obtain ⟨ad, e, hb, hc⟩ := h.2 h0
  refine ⟨ad, e, hb, fun k u hk => ?_⟩
  have hk' := hc k u hk
  refine hg.cell hk' ?_
  rw [block_of_add]
  exact fun e' => hne ad e (by injection e')
/-- the cells of a window of an own row -/
theorem win_cell {w : World} {b : Nat} {e : TypeId} {g N cap j : Nat} {X W Z : List Nat} (h : w.ownsRow b e 1 (.slice (some ⟨g, 0, none⟩) N cap) N (limV (X ++ W ++ Z))) (hX : X.length = j) {i : Nat} (hi : i < W.length) : w.cell? ⟨g, j + i, none⟩ = some (.int .u64 (W.getD i 0 : Int)) := by
  have hN : N = (X ++ W ++ Z).length := by have := h.1; rw [limV_len] at this; omega
  rw [h.cellAt (j + i) (by rw [hN]; simp; omega), limV_at (by simp; omega), getD_at hi]
  simp [hX, hi]
theorem win_now {w : World} {b : Nat} {e : TypeId} {g N cap j i : Nat} {X W Z out : List Nat} (h : w.ownsRow b e 1 (.slice (some ⟨g, 0, none⟩) N cap) N (limV (X ++ (out ++ W.drop i) ++ Z))) (hX : X.length = j) (ho : out.length = i) (hi : i < W.length) : w.cell? ⟨g, j + i, none⟩ = some (.int .u64 (W.getD i 0 : Int)) := by
  rw [win_cell h hX (i := i) (by simp; omega)]
  congr 3
  simp [List.getD, List.getElem?_append, ho, hi]
theorem win_stored {w : World} {b : Nat} {e : TypeId} {g N cap j i : Nat} {X W Z out : List Nat} (h : w.ownsRow b e 1 (.slice (some ⟨g, 0, none⟩) N cap) N (limV (X ++ (out ++ W.drop i) ++ Z))) (hX : X.length = j) (ho : out.length = i) (hi : i < W.length) (y : Nat) :
    (w.setCell ⟨g, j + i, none⟩ (.int .u64 (y : Int))).ownsRow b e 1 (.slice (some ⟨g, 0, none⟩) N cap) N (limV (X ++ ((out ++ [y]) ++ W.drop (i + 1)) ++ Z)) := by
  subst hX
  subst ho
  have st := (h.stored (X.length + out.length) (.int .u64 (y : Int))).1
  rw [limV_set, List.drop_eq_getElem_cons hi, set_win] at st
  exact st
theorem win_stored2 {w : World} {b : Nat} {e : TypeId} {g N cap j i : Nat} {X W Z out : List Nat} (h : w.ownsRow b e 1 (.slice (some ⟨g, 0, none⟩) N cap) N (limV (X ++ (out ++ W.drop i) ++ Z))) (hX : X.length = j) (ho : out.length = i) (hi : i < W.length) (a : Value) (y : Nat) :
    ((w.setCell ⟨g, j + i, none⟩ a).setCell ⟨g, j + i, none⟩ (.int .u64 (y : Int))).ownsRow b e 1 (.slice (some ⟨g, 0, none⟩) N cap) N (limV (X ++ ((out ++ [y]) ++ W.drop (i + 1)) ++ Z)) := by
  subst hX
  subst ho
  have st := ((h.stored (X.length + out.length) a).1.stored (X.length + out.length) (.int .u64 (y : Int))).1
  rw [List.set_set, limV_set, List.drop_eq_getElem_cons hi, set_win] at st
  exact st
theorem grown_set {w w' : World} {g o : Nat} (h : w.grownBy w' (some g)) (v : Value) : w.grownBy (w'.setCell ⟨g, o, none⟩ v) (some g) :=
  grown_trans h ⟨rfl, rfl, rfl, by simp [World.setCell], fun k _ hk => Below.heap_setCell _ _ _ _ (fun e => hk (by rw [e]))⟩
set_option maxRecDepth 100000 in
set_option maxHeartbeats 4000000 in
theorem divideStep_any (w : World) (base N cap g j c1 c2 : Nat) (A2 : Option Addr) (X W Z v : List Nat) (hown : w.ownsRow base 82 1 (.slice (some ⟨g, 0, none⟩) N cap) N (limV (X ++ W ++ Z)))
    (hX : X.length = j) (_hj : j ≤ 2000000) (hWl : W.length = v.length + 1) (hn : 2 ≤ v.length) (hlv : v.length ≤ 1000000) (hsW : Small W) (hsv : Small v) (ht : 0 < v.getD (v.length - 1) 0) (hq : val W < 1000000000 * val v)
    (hrv : Reads w w.heap.size 1 A2 v.length (limV v)) (hne : ∀ ad, A2 = some ad → ad.block ≠ g) :
    Calls Tryz.prog 148 #[.slice (some ⟨g, j, none⟩) (v.length + 1) c1, .slice A2 v.length c2] w fun e w' => e = .returned (.int .u64 ((val W / val v : Nat) : Int)) ∧ (∃ W', W'.length = W.length ∧ Small W' ∧ val W' = val W % val v ∧ w'.ownsRow base 82 1 (.slice (some ⟨g, 0, none⟩) N cap) N (limV (X ++ W' ++ Z))) ∧ w.grownBy w' (some g) := by
  obtain ⟨n, hn2⟩ : ∃ n, v.length = n + 2 := ⟨v.length - 2, by omega⟩
  have hU := val_top3 (l := W) (n := n) (by omega)
  have hV := val_top2 hn2
  have hul := take_lt hsW (n := n) (by omega)
  have hvl := take_lt hsv (n := n) (by omega)
  have q1 := win_cell hown hX (i := v.length) (by omega)
  have q2 := win_cell hown hX (i := v.length - 1) (by omega)
  have q3 := win_cell hown hX (i := v.length - 2) (by omega)
  obtain ⟨ad, rfl, hc1⟩ := hrv.limb (k := v.length - 1) (by omega)
  rw [← getD_at] at hc1
  obtain ⟨t2, et2⟩ : ∃ t2, W.getD v.length 0 = t2 := ⟨_, rfl⟩
  obtain ⟨t1, et1⟩ : ∃ t1, W.getD (v.length - 1) 0 = t1 := ⟨_, rfl⟩
  obtain ⟨nx, enx⟩ : ∃ nx, W.getD (v.length - 2) 0 = nx := ⟨_, rfl⟩
  obtain ⟨x1, ex1⟩ : ∃ x1, v.getD (v.length - 1) 0 = x1 := ⟨_, rfl⟩
  obtain ⟨x2, ex2⟩ : ∃ x2, v.getD (v.length - 2) 0 = x2 := ⟨_, rfl⟩
  have b2 := getD_small hsW v.length
  have b1 := getD_small hsW (v.length - 1)
  have b0 := getD_small hsW (v.length - 2)
  have bx1 := getD_small hsv (v.length - 1)
  have bx2 := getD_small hsv (v.length - 2)
  rw [et2] at q1 b2
  rw [et1] at q2 b1
  rw [enx] at q3 b0
  rw [ex1] at hc1 bx1 ht
  rw [ex2] at bx2
  have f1 : n + 2 = v.length := hn2.symm
  have f2 : n + 1 = v.length - 1 := by omega
  have f3 : n = v.length - 2 := by omega
  rw [f1, f2, et2, et1, f3, enx] at hU
  rw [f2, ex1, f3, ex2] at hV
  rw [f3] at hul hvl
  clear f1 f2 f3 hn2
  have hV0 : 0 < val v := by omega
  have HU := Lib.hid hU
  have HV := Lib.hid hV
  have HUL := Lib.hid hul
  have HVL := Lib.hid hvl
  have HQ := Lib.hid hq
  have HV0 := Lib.hid hV0
  have HO := Lib.hid hown
  have HX2 := Lib.hid ex2
  have HX1 := Lib.hid ex1
  have HX := Lib.hid hX
  have HRV := Lib.hid hrv
  have HWL := Lib.hid hWl
  have HSW := Lib.hid hsW
  clear hU hV hul hvl hq hV0 hown ex1 ex2 hX et2 et1 enx hrv hWl hsW
  have G0 := Lib.hid (guess_start (x1 := x1) (top := t2 * 1000000000 + t1) (next := nx) (by rw [HU.out, Nat.mul_comm t2]; congr 3; omega) HUL.out HV.out b0 ht HQ.out HV0.out)
  go_enter Tryz.func148, Tryz.ntmps148
  go_wp2_with fail
  go_quiet (fail)
  go_upto_region 3 with (fail)
  have HT := Lib.hid (show (t2 * 1000000000 + t1) / x1 * x1 ≤ t2 * 1000000000 + t1 from Nat.div_mul_le_self _ _)
  have ed : ((t2 : Int) * 1000000000 + (t1 : Int)) / (x1 : Int) = (((t2 * 1000000000 + t1) / x1 : Nat) : Int) := by simp
  have hx10 : (x1 : Int) ≠ 0 := by omega
  have HED := Lib.hid ed
  clear ed
  go_cut [7] (fun s wx => (∃ g0 : Nat, s = .int .u64 (g0 : Int) ∧ val W / val v ≤ g0 ∧ g0 * x1 ≤ t2 * 1000000000 + t1 ∧ g0 < 1000000000) ∧ wx = w.drewN nq)
  case first =>
    go_wp2_with (fail)
    · go_meet
      refine ⟨⟨999999999, rfl, Nat.le_trans G0.out (Nat.min_le_right _ _), ?_, by omega⟩, rfl⟩
      rw [HED.out] at h
      exact Nat.le_trans (Nat.mul_le_mul_right _ (by omega)) HT.out
    · go_meet
      rw [HED.out] at h ⊢
      exact ⟨⟨_, rfl, Nat.le_trans G0.out (Nat.min_le_left _ _), HT.out, by omega⟩, rfl⟩
  case rest =>
  obtain ⟨⟨g0, rfl, hg1, hg2, hg3⟩, rfl⟩ := hcut
  have c3 : (w.drewN nq).cell? ⟨g, j + (v.length - 2), none⟩ = some (.int .u64 (nx : Int)) := q3
  have HI0 := Lib.hid (show val W / val v ≤ g0 ∧ g0 * x1 ≤ t2 * 1000000000 + t1 ∧ g0 < 1000000000 from ⟨hg1, hg2, hg3⟩)
  have htop : t2 * 1000000000 + t1 < 1000000000000000000 := by omega
  obtain ⟨top, etop⟩ : ∃ top, t2 * 1000000000 + t1 = top := ⟨_, rfl⟩
  have etop' : (t2 : Int) * 1000000000 + (t1 : Int) = (top : Int) := by omega
  rw [etop] at HI0 htop
  have HU2 := Lib.hid (show val W = val (W.take (v.length - 2)) + 1000000000 ^ (v.length - 2) * (nx + 1000000000 * top) by rw [HU.out, ← etop, Nat.mul_comm t2]; congr 3; omega)
  rw [etop']
  have HRD := Lib.hid (show Reads (w.drewN nq) (w.drewN nq).heap.size 1 (some ad) v.length (limV v) from HRV.out)
  have HV2 := Lib.hid (show 2 ≤ v.length ∧ v.length ≤ 1000000 ∧ Small v ∧ 0 < x1 ∧ x2 < 1000000000 ∧ nx < 1000000000 ∧ top < 1000000000000000000 from ⟨hn, hlv, hsv, ht, bx2, b0, htop⟩)
  clear hg1 hg2 hg3 q1 q2 q3 hc1 etop etop' b1 b2 HT HED HU
  go_upto_block 0 with (fail)
  go_cut [7] (fun s wx => (∃ gg : Nat, s = .int .u64 (gg : Int) ∧ val W / val v ≤ gg ∧ gg ≤ val W / val v + 1 ∧ gg < 1000000000) ∧ wx = w.drewN nq)
  case first =>
    go_wp2_with fail
    go_loop [7] (fun s => ∃ gg : Nat, s = .int .u64 (gg : Int) ∧ val W / val v ≤ gg ∧ gg * x1 ≤ top ∧ gg < 1000000000) (fun s => (intOf s).toNat)
    case atStart => exact ⟨g0, rfl, HI0.out⟩
    case round =>
      obtain ⟨gg, rfl, hg1, hg2, hg3⟩ := hrel
      have HG1 := Lib.hid hg1
      have HG2 := Lib.hid hg2
      clear hg1 hg2 HI0
      by_cases h0 : 0 < gg
      · cases hm : tooMuchB top gg x1 x2 nx
        · have HG3 := Lib.hid (guess_done HU2.out HV.out HVL.out ht bx2 HV0.out hg3 HG2.out (.inr hm))
          have TMC := Lib.hid (tooMuch_any (some ad) v c2 top gg nx x1 x2 (w.drewN nq) HV2.out.1 HV2.out.2.1 HX1.out HX2.out HV2.out.2.2.1 htop hg3 HG2.out b0 HRD.out)
          rw [hm] at TMC
          clear hm
          go_wp2_with (refine TMC.out.mono ?_; rintro e w1 ⟨rfl, rfl⟩)
          go_meet
          exact ⟨⟨gg, rfl, HG1.out, HG3.out, hg3⟩, rfl⟩
        · have HG3 := Lib.hid (guess_step HU2.out HUL.out HV.out HV0.out HG2.out hm)
          have TMC := Lib.hid (tooMuch_any (some ad) v c2 top gg nx x1 x2 (w.drewN nq) HV2.out.1 HV2.out.2.1 HX1.out HX2.out HV2.out.2.2.1 htop hg3 HG2.out b0 HRD.out)
          rw [hm] at TMC
          clear hm
          go_wp2_with (refine TMC.out.mono ?_; rintro e w1 ⟨rfl, rfl⟩)
          go_round
          case rel => exact ⟨gg - 1, by go_num, HG3.out.1, HG3.out.2, by omega⟩
          case measure => simp [intOf]; omega
      · have HG3 := Lib.hid (guess_done HU2.out HV.out HVL.out ht bx2 HV0.out hg3 HG2.out (.inl (by omega)))
        go_wp2_with fail
        go_meet
        exact ⟨⟨gg, rfl, HG1.out, HG3.out, hg3⟩, rfl⟩
  case rest =>
  obtain ⟨⟨gg, rfl, hg1, hg2, hg3⟩, rfl⟩ := hcut
  clear HI0 HUL HVL HV2 HRD HU2 htop c3 HX2 hx10
  have HOS := Lib.hid (show (w.drewN nq).ownsRow base 82 1 (.slice (some ⟨g, 0, none⟩) N cap) N (limV (X ++ ([] ++ W.drop 0) ++ Z)) from HO.out)
  have HG1 := Lib.hid hg1
  have HG2 := Lib.hid hg2
  have HT0 := Lib.hid ht
  clear hg1 hg2 ht bx2 b0
  go_wp2_with fail
  go_loopw [9, 8, 10, 11] (fun ii cc _ _ wr => ∃ (i c : Nat) (out : List Nat), i ≤ v.length + 1 ∧ ii = .int .i64 (i : Int) ∧ cc = .int .u64 (c : Int) ∧ SubInv W v out gg i c ∧ wr.ownsRow base 82 1 (.slice (some ⟨g, 0, none⟩) N cap) N (limV (X ++ (out ++ W.drop i) ++ Z)) ∧ w.grownBy wr (some g)) (fun ii _ _ _ _ => v.length + 1 - (intOf ii).toNat)
  case atStart => exact ⟨0, 0, [], by omega, rfl, rfl, ⟨rfl, Small.nil, by simp [val], by omega⟩, HOS.out, grown_drew (World.grownBy.refl _ _) _⟩
  case round =>
    obtain ⟨i, c, out, hil, rfl, rfl, hinv, hown, hgr⟩ := hrel
    have hc1 : c < 1000000000 := hinv.2.2.2
    have HL := Lib.hid hinv.1
    have HI := Lib.hid hinv
    have HOW := Lib.hid hown
    clear hinv HOS hown
    by_cases hlt : i < v.length + 1
    · have hiW : i < W.length := by rw [HWL.out]; exact hlt
      have hcu := win_now HOW.out HX.out HL.out hiW
      have hfu := HOW.out.frozenAt (j + i)
      obtain ⟨u, hue⟩ : ∃ u, W.getD i 0 = u := ⟨_, rfl⟩
      have hu1 : u < 1000000000 := by rw [← hue]; exact getD_small HSW.out i
      have HUD := Lib.hid hue
      rw [hue] at hcu
      clear hue
      by_cases kb : i < v.length
      · obtain ⟨ad', e, hcb⟩ := (reads_row HRV.out hne hgr).limb kb
        obtain rfl : ad = ad' := by injection e
        clear e
        obtain ⟨x, hxe⟩ : ∃ x, v[i] = x := ⟨_, rfl⟩
        have hx : x < 1000000000 := by rw [← hxe]; exact hsv.at_ kb
        have HYD := Lib.hid (show v.getD i 0 = x by rw [← hxe, getD_at kb])
        rw [hxe] at hcb
        clear hxe
        have hm := mul_le9 hg3 hx
        have hm0 : 0 ≤ (gg : Int) * (x : Int) := Int.mul_nonneg (by omega) (by omega)
        by_cases hul : (u : Int) < ((c : Int) + (gg : Int) * (x : Int)) % 1000000000
        · have esc := Lib.hid (show (((c + gg * x) : Nat) : Int) = (c : Int) + (gg : Int) * (x : Int) by simp)
          have hsc := sub_carry (u := u) hg3 (x := x) hx hc1 (s := (c + gg * x)) (by simp)
          have hu2 : u < (c + gg * x) % 1000000000 := by have := esc.out; omega
          have HN := Lib.hid (HI.out.next (s := (c + gg * x)) (y := (u + 1000000000 - (c + gg * x) % 1000000000)) (c' := ((c + gg * x) / 1000000000 + 1)) (by rw [HYD.out]) (by omega) (by exact hsc.2 hu2) (by rw [HUD.out]; omega))
          have ey : (((u + 1000000000 - (c + gg * x) % 1000000000) : Nat) : Int) = (u : Int) + 1000000000 - ((c : Int) + (gg : Int) * (x : Int)) % 1000000000 := by have := esc.out; omega
          have ec : ((((c + gg * x) / 1000000000 : Nat)) : Int) = ((c : Int) + (gg : Int) * (x : Int)) / 1000000000 := by rw [← esc.out]; simp
          have EC := Lib.hid ec
          have HSC := Lib.hid hsc
          clear hsc hu2 ec
          have HS := Lib.hid (show ((wr.setCell ⟨g, j + i, none⟩ (.int .u64 ((u : Int) + 1000000000))).setCell ⟨g, j + i, none⟩ (.int .u64 ((u : Int) + 1000000000 - ((c : Int) + (gg : Int) * (x : Int)) % 1000000000))).ownsRow base 82 1 (.slice (some ⟨g, 0, none⟩) N cap) N (limV (X ++ ((out ++ [(u + 1000000000 - (c + gg * x) % 1000000000)]) ++ W.drop (i + 1)) ++ Z)) from ey ▸ win_stored2 HOW.out HX.out HL.out hiW (.int .u64 ((u : Int) + 1000000000)) (u + 1000000000 - (c + gg * x) % 1000000000))
          have HB := Lib.hid (grown_set (grown_set hgr (.int .u64 ((u : Int) + 1000000000)) (o := j + i)) (.int .u64 ((u : Int) + 1000000000 - ((c : Int) + (gg : Int) * (x : Int)) % 1000000000)) (o := j + i))
          clear ey
          go_wp2
          go_roundw
          case rel => exact ⟨i + 1, ((c + gg * x) / 1000000000 + 1), _, by omega, by go_num, congrArg (Value.int .u64) (by have := EC.out; omega), HN.out, HS.out, HB.out⟩
          case measure => simp [intOf]; omega
        · have esc := Lib.hid (show (((c + gg * x) : Nat) : Int) = (c : Int) + (gg : Int) * (x : Int) by simp)
          have hsc := sub_carry (u := u) hg3 (x := x) hx hc1 (s := (c + gg * x)) (by simp)
          have hu2 : ¬ u < (c + gg * x) % 1000000000 := by have := esc.out; omega
          have HN := Lib.hid (HI.out.next (s := (c + gg * x)) (y := (u - (c + gg * x) % 1000000000)) (c' := ((c + gg * x) / 1000000000)) (by rw [HYD.out]) (by omega) (by exact hsc.1) (by rw [HUD.out]; omega))
          have ey : (((u - (c + gg * x) % 1000000000) : Nat) : Int) = (u : Int) - ((c : Int) + (gg : Int) * (x : Int)) % 1000000000 := by have := esc.out; omega
          have ec : ((((c + gg * x) / 1000000000 : Nat)) : Int) = ((c : Int) + (gg : Int) * (x : Int)) / 1000000000 := by rw [← esc.out]; simp
          have EC := Lib.hid ec
          have HSC := Lib.hid hsc
          clear hsc hu2 ec
          have HS := Lib.hid (show (wr.setCell ⟨g, j + i, none⟩ (.int .u64 ((u : Int) - ((c : Int) + (gg : Int) * (x : Int)) % 1000000000))).ownsRow base 82 1 (.slice (some ⟨g, 0, none⟩) N cap) N (limV (X ++ ((out ++ [(u - (c + gg * x) % 1000000000)]) ++ W.drop (i + 1)) ++ Z)) from ey ▸ win_stored HOW.out HX.out HL.out hiW (u - (c + gg * x) % 1000000000))
          have HB := Lib.hid (grown_set hgr (.int .u64 ((u : Int) - ((c : Int) + (gg : Int) * (x : Int)) % 1000000000)) (o := j + i))
          clear ey
          go_wp2
          go_roundw
          case rel => exact ⟨i + 1, ((c + gg * x) / 1000000000), _, by omega, by go_num, congrArg (Value.int .u64) (by have := EC.out; omega), HN.out, HS.out, HB.out⟩
          case measure => simp [intOf]; omega
      · have HYD := Lib.hid (show v.getD i 0 = 0 by simp [List.getD, show v.length ≤ i by omega])
        by_cases hul : (u : Int) < (c : Int) % 1000000000
        · have esc := Lib.hid (show ((c : Nat) : Int) = (c : Int) by simp)
          have hsc := sub_carry (u := u) hg3 (x := 0) (by omega) hc1 (s := c) (by simp)
          have hu2 : u < c % 1000000000 := by have := esc.out; omega
          have HN := Lib.hid (HI.out.next (s := c) (y := (u + 1000000000 - c % 1000000000)) (c' := (c / 1000000000 + 1)) (by rw [HYD.out]; simp) (by omega) (by exact hsc.2 hu2) (by rw [HUD.out]; omega))
          have ey : (((u + 1000000000 - c % 1000000000) : Nat) : Int) = (u : Int) + 1000000000 - ((c : Int)) % 1000000000 := by have := esc.out; omega
          have ec : (((c / 1000000000 : Nat)) : Int) = ((c : Int)) / 1000000000 := by rw [← esc.out]; simp
          have EC := Lib.hid ec
          have HSC := Lib.hid hsc
          clear hsc hu2 ec
          have HS := Lib.hid (show ((wr.setCell ⟨g, j + i, none⟩ (.int .u64 ((u : Int) + 1000000000))).setCell ⟨g, j + i, none⟩ (.int .u64 ((u : Int) + 1000000000 - ((c : Int)) % 1000000000))).ownsRow base 82 1 (.slice (some ⟨g, 0, none⟩) N cap) N (limV (X ++ ((out ++ [(u + 1000000000 - c % 1000000000)]) ++ W.drop (i + 1)) ++ Z)) from ey ▸ win_stored2 HOW.out HX.out HL.out hiW (.int .u64 ((u : Int) + 1000000000)) (u + 1000000000 - c % 1000000000))
          have HB := Lib.hid (grown_set (grown_set hgr (.int .u64 ((u : Int) + 1000000000)) (o := j + i)) (.int .u64 ((u : Int) + 1000000000 - ((c : Int)) % 1000000000)) (o := j + i))
          clear ey
          go_wp2
          go_roundw
          case rel => exact ⟨i + 1, (c / 1000000000 + 1), _, by omega, by go_num, congrArg (Value.int .u64) (by have := EC.out; omega), HN.out, HS.out, HB.out⟩
          case measure => simp [intOf]; omega
        · have esc := Lib.hid (show ((c : Nat) : Int) = (c : Int) by simp)
          have hsc := sub_carry (u := u) hg3 (x := 0) (by omega) hc1 (s := c) (by simp)
          have hu2 : ¬ u < c % 1000000000 := by have := esc.out; omega
          have HN := Lib.hid (HI.out.next (s := c) (y := (u - c % 1000000000)) (c' := (c / 1000000000)) (by rw [HYD.out]; simp) (by omega) (by exact hsc.1) (by rw [HUD.out]; omega))
          have ey : (((u - c % 1000000000) : Nat) : Int) = (u : Int) - ((c : Int)) % 1000000000 := by have := esc.out; omega
          have ec : (((c / 1000000000 : Nat)) : Int) = ((c : Int)) / 1000000000 := by rw [← esc.out]; simp
          have EC := Lib.hid ec
          have HSC := Lib.hid hsc
          clear hsc hu2 ec
          have HS := Lib.hid (show (wr.setCell ⟨g, j + i, none⟩ (.int .u64 ((u : Int) - ((c : Int)) % 1000000000))).ownsRow base 82 1 (.slice (some ⟨g, 0, none⟩) N cap) N (limV (X ++ ((out ++ [(u - c % 1000000000)]) ++ W.drop (i + 1)) ++ Z)) from ey ▸ win_stored HOW.out HX.out HL.out hiW (u - c % 1000000000))
          have HB := Lib.hid (grown_set hgr (.int .u64 ((u : Int) - ((c : Int)) % 1000000000)) (o := j + i))
          clear ey
          go_wp2
          go_roundw
          case rel => exact ⟨i + 1, (c / 1000000000), _, by omega, by go_num, congrArg (Value.int .u64) (by have := EC.out; omega), HN.out, HS.out, HB.out⟩
          case measure => simp [intOf]; omega
    · obtain rfl : i = v.length + 1 := by omega
      have HD := Lib.hid (HI.out.done rfl HWL.out rfl HG1.out HG2.out hsv HV0.out)
      have hdw : W.drop (v.length + 1) = [] := List.drop_of_length_le (by rw [HWL.out]; exact Nat.le_refl _)
      have HOW2 := Lib.hid (show wr.ownsRow base 82 1 (.slice (some ⟨g, 0, none⟩) N cap) N (limV (X ++ out ++ Z)) by
        have := HOW.out
        rwa [hdw, List.append_nil] at this)
      have HLO := Lib.hid (show out.length = W.length by rw [HL.out, HWL.out])
      have HSO := Lib.hid (show Small out from HI.out.2.1)
      clear hdw
      by_cases hc0 : c = 0
      · subst hc0
        obtain ⟨h1, h2⟩ := HD.out.1 rfl
        have H1 := Lib.hid h1
        have H2 := Lib.hid h2
        clear h1 h2
        go_wp2
        go_ret
        exact ⟨ret_int (by rw [H1.out] <;> simp), ⟨out, HLO.out, HSO.out, H2.out, by simpa using HOW2.out⟩, hgr⟩
      · obtain ⟨h1, h3, h2⟩ := HD.out.2 hc0
        have H1 := Lib.hid h1
        have H2 := Lib.hid h2
        have hg0 : 1 ≤ gg := by rw [H1.out]; exact Nat.le_add_left 1 _
        have HC := Lib.hid h3
        subst h3
        clear h1 h2 hc0 HD
        have HR0 := Lib.hid (show wr.ownsRow base 82 1 (.slice (some ⟨g, 0, none⟩) N cap) N (limV (X ++ ([] ++ out.drop 0) ++ Z)) from HOW2.out)
        go_wp2
        go_loopw [13, 12, 14] (fun ii rr _ wr => ∃ (i cc : Nat) (o3 : List Nat), i ≤ v.length + 1 ∧ ii = .int .i64 (i : Int) ∧ rr = .int .u64 (cc : Int) ∧ AddInv out v o3 i cc ∧ wr.ownsRow base 82 1 (.slice (some ⟨g, 0, none⟩) N cap) N (limV (X ++ (o3 ++ out.drop i) ++ Z)) ∧ w.grownBy wr (some g)) (fun ii _ _ _ => v.length + 1 - (intOf ii).toNat)
        case atStart => exact ⟨0, 0, [], by omega, rfl, rfl, ⟨rfl, Small.nil, by simp [val], by omega⟩, HR0.out, hgr⟩
        case round =>
          obtain ⟨i, cc, o3, hil3, rfl, rfl, hinv, hown, hgr3⟩ := hrel
          have hc13 : cc ≤ 1 := hinv.2.2.2
          have HL3 := Lib.hid hinv.1
          have HI2 := Lib.hid hinv
          have HOW3 := Lib.hid hown
          clear hinv hown
          by_cases hlt3 : i < v.length + 1
          · have hiO : i < out.length := by rw [HL.out]; exact hlt3
            have hcu := win_now HOW3.out HX.out HL3.out hiO
            have hfu := HOW3.out.frozenAt (j + i)
            obtain ⟨u, hue⟩ : ∃ u, out.getD i 0 = u := ⟨_, rfl⟩
            have hu1 : u < 1000000000 := by rw [← hue]; exact getD_small HSO.out i
            have HUD := Lib.hid hue
            rw [hue] at hcu
            clear hue
            by_cases kb : i < v.length
            · obtain ⟨ad', e, hcb⟩ := (reads_row HRV.out hne hgr3).limb kb
              obtain rfl : ad = ad' := by injection e
              clear e
              obtain ⟨x, hxe⟩ : ∃ x, v[i] = x := ⟨_, rfl⟩
              have hx : x < 1000000000 := by rw [← hxe]; exact hsv.at_ kb
              have HYD := Lib.hid (show v.getD i 0 = x by rw [← hxe, getD_at kb])
              rw [hxe] at hcb
              clear hxe
              have HN := Lib.hid (HI2.out.next (s := (u + cc + x)) (by rw [HUD.out, HYD.out]) HSO.out hsv)
              have ey : (((u + cc + x) % 1000000000 : Nat) : Int) = ((u : Int) + (cc : Int) + (x : Int)) % 1000000000 := by simp
              have HS := Lib.hid (show (wr.setCell ⟨g, j + i, none⟩ (.int .u64 (((u : Int) + (cc : Int) + (x : Int)) % 1000000000))).ownsRow base 82 1 (.slice (some ⟨g, 0, none⟩) N cap) N (limV (X ++ ((o3 ++ [(u + cc + x) % 1000000000]) ++ out.drop (i + 1)) ++ Z)) from ey ▸ win_stored HOW3.out HX.out HL3.out hiO ((u + cc + x) % 1000000000))
              have HB := Lib.hid (grown_set hgr3 (.int .u64 (((u : Int) + (cc : Int) + (x : Int)) % 1000000000)) (o := j + i))
              clear ey
              go_wp2
              go_roundw
              case rel => exact ⟨i + 1, (u + cc + x) / 1000000000, _, by omega, by go_num, congrArg (Value.int .u64) (by omega), HN.out, HS.out, HB.out⟩
              case measure => simp [intOf]; omega
            · have HYD := Lib.hid (show v.getD i 0 = 0 by simp [List.getD, show v.length ≤ i by omega])
              have HN := Lib.hid (HI2.out.next (s := (u + cc)) (by rw [HUD.out, HYD.out, Nat.add_zero]) HSO.out hsv)
              have ey : (((u + cc) % 1000000000 : Nat) : Int) = ((u : Int) + (cc : Int)) % 1000000000 := by simp
              have HS := Lib.hid (show (wr.setCell ⟨g, j + i, none⟩ (.int .u64 (((u : Int) + (cc : Int)) % 1000000000))).ownsRow base 82 1 (.slice (some ⟨g, 0, none⟩) N cap) N (limV (X ++ ((o3 ++ [(u + cc) % 1000000000]) ++ out.drop (i + 1)) ++ Z)) from ey ▸ win_stored HOW3.out HX.out HL3.out hiO ((u + cc) % 1000000000))
              have HB := Lib.hid (grown_set hgr3 (.int .u64 (((u : Int) + (cc : Int)) % 1000000000)) (o := j + i))
              clear ey
              go_wp2
              go_roundw
              case rel => exact ⟨i + 1, (u + cc) / 1000000000, _, by omega, by go_num, congrArg (Value.int .u64) (by omega), HN.out, HS.out, HB.out⟩
              case measure => simp [intOf]; omega
          · obtain rfl : i = v.length + 1 := by omega
            have hdo : out.drop (v.length + 1) = [] := List.drop_of_length_le (by rw [HL.out]; exact Nat.le_refl _)
            have HOW4 := Lib.hid (show wr.ownsRow base 82 1 (.slice (some ⟨g, 0, none⟩) N cap) N (limV (X ++ o3 ++ Z)) by
              have := HOW3.out
              rwa [hdo, List.append_nil] at this)
            have hpp := pow_mono (Nat.le_succ v.length)
            have hvl := val_lt hsv
            have hrm := Nat.mod_lt (val W) HV0.out
            have HF := Lib.hid (HI2.out.done rfl HL.out H2.out (Nat.lt_of_lt_of_le (Nat.lt_trans hrm hvl) hpp))
            clear hdo hpp hvl hrm
            go_wp2
            go_ret
            exact ⟨ret_int (by have := H1.out; omega), ⟨o3, by rw [HL3.out, HWL.out], HI2.out.2.1, HF.out, by simpa using HOW4.out⟩, hgr3⟩
end Go.Proofs.YtpanbeoelbhhgaaGreatDoor
