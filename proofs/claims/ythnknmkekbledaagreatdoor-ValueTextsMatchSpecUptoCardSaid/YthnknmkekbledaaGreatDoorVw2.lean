/- The walks of padded and showNumber. -/
import Derived.Test.YthnknmkekbledaaGreatDoorVw1
namespace Go.Proofs.YthnknmkekbledaaGreatDoor
open Go.RowKit Dig Vtx

def strLen (v : Value) : Nat := match v with
  | .string t => t.size
  | _ => 0
set_option maxHeartbeats 1000000 in
theorem padded_any (n : Int) (W : Nat) (w : World) (h0 : 0 ≤ n) (h1 : n ≤ 9223372036854775807) (hW : W ≤ 20) (htab : Tab w) :
    Calls Tryz.prog 28 #[.int .i64 n, .int .i64 (W : Nat)] w fun e w' => (∃ t : ByteArray, e = .returned (.string t) ∧ t.data.toList = padT W n) ∧ Below w.heap.size w w' := by
  have HT := Lib.hid htab
  clear htab
  go_enter Tryz.func28, Tryz.ntmps28
  go_wp2_with fail
  refine (itoa_any n w (by omega) h1 HT.out).mono ?_
  rintro e w1 ⟨⟨t0, rfl, ht0⟩, hb1⟩
  obtain ⟨L, hL⟩ : ∃ L, (Lib.itoa n).length = L := ⟨_, rfl⟩
  have HT0 := Lib.hid ht0
  have hLb : L ≤ 20 := by
    obtain ⟨m, rfl⟩ : ∃ m : Nat, n = m := ⟨n.toNat, by omega⟩
    rw [itoa_nat] at hL
    have := dec_len 18 m (by omega)
    omega
  have HL := Lib.hid hL
  clear ht0 hL
  go_wp2_with (fail)
  go_loop [5] (fun s => ∃ (t : ByteArray) (k : Nat), s = .string t ∧ Hid (t.data.toList = zeros k ++ Lib.itoa n) ∧ k ≤ W - L) (fun s => W - strLen s)
  case atStart => exact ⟨t0, 0, rfl, Lib.hid HT0.out, Nat.zero_le _⟩
  case round =>
    obtain ⟨t, k, rfl, HTT, hk⟩ := hrel
    have hsz : t.size = k + L := by
      have : t.data.toList.length = k + L := by rw [HTT.out]; simp [zeros, HL.out]
      exact this
    have hs1 : t.size ≤ k + L := by omega
    have hs2 : k + L ≤ t.size := by omega
    clear hsz
    by_cases hlt : t.size < W
    · go_wp2_with (fail)
      go_round
      case rel =>
        refine ⟨⟨#[48]⟩ ++ t, k + 1, rfl, Lib.hid ?_, by omega⟩
        rw [toList_app, HTT.out, show zeros (k + 1) = 48 :: zeros k from rfl]
        rfl
      case measure =>
        have : (⟨#[48]⟩ ++ t : ByteArray).size = t.size + 1 := by rw [ByteArray.size_append]; show 1 + t.size = _; omega
        simp [strLen, this]
        omega
    · have HTP := Lib.hid (show t.data.toList = padT W n by
        rw [HTT.out]
        unfold padT
        rw [HL.out, show k = W - L by omega])
      clear HTT HT0 HL
      go_wp2
      go_ret
      exact ⟨⟨_, rfl, HTP.out⟩, hb1⟩
theorem trim_right0 (t : ByteArray) (w : World) (h : t.size ≤ 100) :
    Calls Tryz.prog 31 #[.string t, .string ⟨#[48]⟩] w fun e w' => (∃ u : ByteArray, e = .returned (.string u) ∧ u.data.toList = Lib.trimRightB t.data.toList 48) ∧ w = w' :=
  (Tryz.strings_TrimRight_one t 48 (by decide) w (by omega)).mono fun _ _ ⟨he, hw⟩ => ⟨⟨_, he, rfl⟩, hw.symm⟩
set_option maxHeartbeats 1000000 in
theorem showNumber_any (n : Int) (w : World) (h1 : -999999999999999 ≤ n) (h2 : n ≤ 999999999999999) (htab : Tab w) :
    Calls Tryz.prog 25 #[.int .i64 n] w fun e w' => (∃ t : ByteArray, e = .returned (.string t) ∧ t.data.toList = numT n) ∧ Below w.heap.size w w' := by
  have HT := Lib.hid htab
  clear htab
  obtain ⟨a, ha⟩ : ∃ a, absI n = a := ⟨_, rfl⟩
  have hab : 0 ≤ a ∧ a ≤ 999999999999999 := by rw [← ha]; unfold absI; split <;> omega
  obtain ⟨ha0, ha1⟩ := hab
  obtain ⟨F, hF⟩ : ∃ F, a / 10000 = F := ⟨_, rfl⟩
  obtain ⟨M, hM⟩ : ∃ M, a % 10000 = M := ⟨_, rfl⟩
  have hF0 : 0 ≤ F := by omega
  have hF1 : F ≤ 99999999999 := by omega
  have hM0 : 0 ≤ M := by omega
  have hM1 : M < 10000 := by omega
  have HN := Lib.hid (show numT n = (if n < 0 then [45] else []) ++ Lib.itoa F ++ (if fracT M = [] then [] else 46 :: fracT M) by unfold numT; rw [ha, hF, hM])
  have HI := Lib.hid (show (Lib.itoa F).length ≤ 11 by
    obtain ⟨m, rfl⟩ : ∃ m : Nat, F = m := ⟨F.toNat, by omega⟩
    rw [itoa_nat]
    exact dec_len 10 m (by omega))
  have HFR := Lib.hid (show (padT 4 M).length = 4 ∧ (fracT M).length ≤ 4 by
    obtain ⟨m, rfl⟩ : ∃ m : Nat, M = m := ⟨M.toNat, by omega⟩
    exact ⟨pad_len (dec_len 3 m (by omega)), (frac_pad (by omega)).2⟩)
  have HA := Lib.hid ha
  have HFD := Lib.hid hF
  have HMD := Lib.hid hM
  clear ha hF hM
  go_enter Tryz.func25, Tryz.ntmps25
  go_upto_if 7 with (fail)
  go_cut [0, 3] (fun v s wx => v = .int .i64 a ∧ (∃ sg : ByteArray, s = .string sg ∧ Hid (sg.data.toList = if n < 0 then [45] else []) ∧ sg.size ≤ 1) ∧ wx = w)
  case first =>
    by_cases hn : n < 0
    · have hx := Lib.hid (show a = -n by rw [← HA.out]; unfold absI; rw [if_pos hn])
      go_wp2_with (fail)
      go_meet
      exact ⟨by rw [hx.out], ⟨_, rfl, Lib.hid (by rw [if_pos (by omega)]), by decide⟩, rfl⟩
    · have hx := Lib.hid (show a = n by rw [← HA.out]; unfold absI; rw [if_neg hn])
      go_wp2_with (fail)
      go_meet
      exact ⟨by rw [hx.out], ⟨_, rfl, Lib.hid (by rw [if_neg (by omega)]), by decide⟩, rfl⟩
  case rest =>
  obtain ⟨rfl, ⟨sg, rfl, HS, hsg⟩, rfl⟩ := hcut
  have eF : a / 10000 = F := HFD.out
  have eM : a % 10000 = M := HMD.out
  go_wp2_with fail
  refine (itoa_any F _ (by omega) (by omega) HT.out).mono ?_
  rintro e w1 ⟨⟨tf, rfl, htf⟩, hb1⟩
  have htl : tf.size ≤ 11 := by rw [dsize htf]; exact HI.out
  have HTF := Lib.hid htf
  have HT1 := Lib.hid (HT.out.below hb1)
  clear htf
  go_wp2_with fail
  refine (padded_any M 4 w1 hM0 (by omega) (by omega) HT1.out).mono ?_
  rintro e w2 ⟨⟨tm, rfl, htm⟩, hb2⟩
  have html : tm.size ≤ 4 := by rw [dsize htm, HFR.out.1]; exact Nat.le_refl _
  have HTM := Lib.hid htm
  have hbw := hb1.trans (hb2.mono hb1.size)
  clear htm hb1 hb2
  go_wp2_with fail
  refine (trim_right0 tm w2 (by omega)).mono ?_
  rintro e w3 ⟨⟨u, rfl, hu⟩, rfl⟩
  rw [HTM.out] at hu
  have hul : u.size ≤ 4 := by rw [dsize hu]; exact HFR.out.2
  have HU := Lib.hid (show u.data.toList = fracT M from hu)
  clear hu
  by_cases h0 : u = ⟨#[]⟩
  · have HE := Lib.hid (show fracT M = [] by rw [← HU.out, h0])
    subst h0
    go_wp2
    go_ret
    exact ⟨⟨_, rfl, by rw [HN.out, toList_app, HS.out, HTF.out, if_pos HE.out, List.append_nil]⟩, hbw⟩
  · have hne : u.data.toList ≠ [] := fun e => h0 (ba_of e)
    have se : u.toList.isEmpty = false := by rw [ByteArray.toList_eq]; simpa using hne
    have HE := Lib.hid (show fracT M ≠ [] by rw [← HU.out]; exact hne)
    clear hne h0
    go_wp2
    go_ret
    exact ⟨⟨_, rfl, by rw [HN.out, toList_app, toList_app, toList_app, HS.out, HTF.out, if_neg HE.out, HU.out]; simp⟩, hbw⟩
end Go.Proofs.YthnknmkekbledaaGreatDoor
