/- The walks of the reference's digits, decimal and reason. -/
import Derived.Test.YthnknmkekbledaaGreatDoorVw2
import Derived.Outline
namespace Go.Proofs.YthnknmkekbledaaGreatDoor
open Go.RowKit Dig Vtx

theorem rep0 (k : Nat) : Lib.repeatL [48] k = zeros k := by
  induction k with
  | zero => rfl
  | succ k ih => rw [Lib.repeatL, ih]; rfl
theorem repeat_any (k : Nat) (w : World) (hk : k ≤ 1000) :
    Calls Tryz.prog 36 #[.string ⟨#[48]⟩, .int .i64 (k : Nat)] w fun e w' => (∃ t : ByteArray, e = .returned (.string t) ∧ t.data.toList = zeros k) ∧ Below w.heap.size w w' :=
  (Tryz.strings_Repeat ⟨#[48]⟩ k w (by omega) (by show 1 * k ≤ _; omega)).mono fun _ _ ⟨he, hb⟩ => ⟨⟨_, he, by rw [show (⟨#[48]⟩ : ByteArray).data.toList = [48] from rfl, rep0]⟩, hb⟩
set_option maxHeartbeats 1000000 in
theorem digits_any (n : Int) (W : Nat) (w : World) (h0 : 0 ≤ n) (h1 : n ≤ 9223372036854775807) (hW : W ≤ 20) (htab : Tab w) :
    Calls Tryz.prog 17 #[.int .i64 n, .int .i64 (W : Nat)] w fun e w' => (∃ t : ByteArray, e = .returned (.string t) ∧ t.data.toList = padT W n) ∧ Below w.heap.size w w' := by
  have HT := Lib.hid htab
  clear htab
  go_enter Tryz.func17, Tryz.ntmps17
  go_wp2_with fail
  refine (itoa_any n w (by omega) h1 HT.out).mono ?_
  rintro e w1 ⟨⟨t0, rfl, ht0⟩, hb1⟩
  have hsz : t0.size ≤ 20 := by
    rw [dsize ht0]
    obtain ⟨m, rfl⟩ : ∃ m : Nat, n = m := ⟨n.toNat, by omega⟩
    rw [itoa_nat]
    have := dec_len 18 m (by omega)
    omega
  have HP := Lib.hid (show padT W n = zeros (W - t0.size) ++ t0.data.toList by unfold padT; rw [ht0, dsize ht0])
  clear ht0
  go_wp2_with fail
  rw [show max ((W : Int) - t0.size) 0 = ((W - t0.size : Nat) : Int) from by omega]
  refine (repeat_any _ w1 (by omega)).mono ?_
  rintro e w2 ⟨⟨z, rfl, hz⟩, hb2⟩
  have HZ := Lib.hid hz
  have hbw := hb1.trans (hb2.mono hb1.size)
  have hzl : z.size ≤ 20 := by rw [dsize hz]; simp [zeros]; omega
  clear hz hb1 hb2
  go_wp2
  go_ret
  exact ⟨⟨_, rfl, by rw [HP.out, toList_app, HZ.out]⟩, hbw⟩
set_option maxHeartbeats 1000000 in
theorem decimal_any (n : Int) (w : World) (h1 : -999999999999999 ≤ n) (h2 : n ≤ 999999999999999) (htab : Tab w) :
    Calls Tryz.prog 13 #[.int .i64 n] w fun e w' => (∃ t : ByteArray, e = .returned (.string t) ∧ t.data.toList = numT n) ∧ Below w.heap.size w w' := by
  have HT := Lib.hid htab
  clear htab
  obtain ⟨a, ha⟩ : ∃ a, absI n = a := ⟨_, rfl⟩
  have hab : 0 ≤ a ∧ a ≤ 999999999999999 := by rw [← ha]; unfold absI; split <;> omega
  obtain ⟨ha0, ha1⟩ := hab
  obtain ⟨F, hF⟩ : ∃ F, a / 10000 = F := ⟨_, rfl⟩
  obtain ⟨M, hM⟩ : ∃ M, a % 10000 = M := ⟨_, rfl⟩
  have hF0 : 0 ≤ F := by omega
  have hF1 : F ≤ 99999999999 := by omega
  have hM0 : 0 ≤ M := by omega
  have hM1 : M < 10000 := by omega
  have HN := Lib.hid (show numT n = (if n < 0 then [45] else []) ++ Lib.itoa F ++ (if fracT M = [] then [] else 46 :: fracT M) by unfold numT; rw [ha, hF, hM])
  have HI := Lib.hid (show (Lib.itoa F).length ≤ 11 by
    obtain ⟨m, rfl⟩ : ∃ m : Nat, F = m := ⟨F.toNat, by omega⟩
    rw [itoa_nat]
    exact dec_len 10 m (by omega))
  have HFR := Lib.hid (show (padT 4 M).length = 4 ∧ (fracT M).length ≤ 4 ∧ (fracT M = [] ↔ M = 0) by
    obtain ⟨m, rfl⟩ : ∃ m : Nat, M = m := ⟨M.toNat, by omega⟩
    refine ⟨pad_len (dec_len 3 m (by omega)), (frac_pad (by omega)).2, ?_⟩
    rw [frac_nil (by omega)]; omega)
  have HA := Lib.hid ha
  have HFD := Lib.hid hF
  have HMD := Lib.hid hM
  clear ha hF hM
  go_enter Tryz.func13, Tryz.ntmps13
  go_upto_if 6 with (fail)
  go_cut [0, 3] (fun v s wx => v = .int .i64 a ∧ (∃ sg : ByteArray, s = .string sg ∧ Hid (sg.data.toList = if n < 0 then [45] else []) ∧ sg.size ≤ 1) ∧ wx = w)
  case first =>
    by_cases hn : n < 0
    · have hx := Lib.hid (show a = -n by rw [← HA.out]; unfold absI; rw [if_pos hn])
      go_wp2_with (fail)
      go_meet
      exact ⟨by rw [hx.out], ⟨_, rfl, Lib.hid (by rw [if_pos (by omega)]), by decide⟩, rfl⟩
    · have hx := Lib.hid (show a = n by rw [← HA.out]; unfold absI; rw [if_neg hn])
      go_wp2_with (fail)
      go_meet
      exact ⟨by rw [hx.out], ⟨_, rfl, Lib.hid (by rw [if_neg (by omega)]), by decide⟩, rfl⟩
  case rest =>
  obtain ⟨rfl, ⟨sg, rfl, HS, hsg⟩, rfl⟩ := hcut
  have eF : a / 10000 = F := HFD.out
  have eM : a % 10000 = M := HMD.out
  go_wp2_with fail
  refine (itoa_any F _ (by omega) (by omega) HT.out).mono ?_
  rintro e w1 ⟨⟨tf, rfl, htf⟩, hb1⟩
  have htl : tf.size ≤ 11 := by rw [dsize htf]; exact HI.out
  have HTF := Lib.hid htf
  have HT1 := Lib.hid (HT.out.below hb1)
  clear htf
  by_cases h0 : M = 0
  · have HE := Lib.hid (HFR.out.2.2.2 h0)
    subst h0
    go_wp2
    go_ret
    exact ⟨⟨_, rfl, by rw [HN.out, toList_app, HS.out, HTF.out, if_pos HE.out, List.append_nil]⟩, hb1⟩
  have HE := Lib.hid (show fracT M ≠ [] from fun e => h0 (HFR.out.2.2.1 e))
  go_wp2_with fail
  refine (digits_any M 4 w1 hM0 (by omega) (by omega) HT1.out).mono ?_
  rintro e w2 ⟨⟨tm, rfl, htm⟩, hb2⟩
  have html : tm.size ≤ 4 := by rw [dsize htm, HFR.out.1]; exact Nat.le_refl _
  have HTM := Lib.hid htm
  have hbw := hb1.trans (hb2.mono hb1.size)
  clear htm hb1 hb2
  go_wp2_with fail
  refine (trim_right0 tm w2 (by omega)).mono ?_
  rintro e w3 ⟨⟨u, rfl, hu⟩, rfl⟩
  rw [HTM.out] at hu
  have hul : u.size ≤ 4 := by rw [dsize hu]; exact HFR.out.2.1
  have HU := Lib.hid (show u.data.toList = fracT M from hu)
  clear hu
  go_wp2
  go_ret
  exact ⟨⟨_, rfl, by rw [HN.out, toList_app, toList_app, toList_app, HS.out, HTF.out, if_neg HE.out, HU.out]; simp⟩, hbw⟩
theorem reason_any (n : Int) (w : World) (h1 : 1 ≤ n) (h2 : n ≤ 3) :
    Calls Tryz.prog 12 #[.int .i64 n] w fun e w' => e = .returned (.string ⟨(wordT n).toArray⟩) ∧ w = w' := by
  obtain rfl | rfl | rfl : n = 1 ∨ n = 2 ∨ n = 3 := by omega
  all_goals
    go_enter Tryz.func12, Tryz.ntmps12
    go_wp2
    go_ret
    exact ⟨rfl, rfl⟩
end Go.Proofs.YthnknmkekbledaaGreatDoor
