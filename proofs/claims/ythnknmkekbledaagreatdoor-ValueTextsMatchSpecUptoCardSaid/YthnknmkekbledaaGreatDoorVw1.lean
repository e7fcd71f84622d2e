/- The walks of whole, padded, showNumber: digits read and written. -/
import Derived.Test.YthnknmkekbledaaGreatDoorShelf
import Derived.Test.YthnknmkekbledaaGreatDoorChk
import Derived.Test.YthnknmkekbledaaGreatDoorVtx3
import Derived.Lib.AppendIntMem
namespace Go.Proofs.YthnknmkekbledaaGreatDoor
open Go.RowKit Dig Vtx

theorem ba_of {t : ByteArray} {l : List UInt8} (h : t.data.toList = l) : t = ⟨l.toArray⟩ := by subst h; rfl
theorem dsize {t : ByteArray} {l : List UInt8} (h : t.data.toList = l) : t.size = l.length := by rw [← h]; rfl
theorem toList_app (a b : ByteArray) : (a ++ b).data.toList = a.data.toList ++ b.data.toList := by rw [ByteArray.data_append, Array.toList_append]
theorem ret_str {a b : ByteArray} (h : a.data.toList = b.data.toList) : Ending.returned (.string a) = .returned (.string b) := by rw [ba_of h]
theorem ret_str' {a : ByteArray} {l : List UInt8} (h : a.data.toList = l) : Ending.returned (.string a) = .returned (.string ⟨l.toArray⟩) := by rw [ba_of h]

def wholeV (l : List UInt8) : Value := .tuple #[.int .i64 ((wholeF l).1 : Nat), .bool (wholeF l).2]
theorem wholeV_no {l : List UInt8} (h : l = [] ∨ 15 < l.length) : wholeV l = .tuple #[.int .i64 0, .bool false] := by unfold wholeV wholeF; rw [if_pos h]; rfl
theorem wholeV_bad {l : List UInt8} (h : l.all digB = false) : wholeV l = .tuple #[.int .i64 0, .bool false] := by
  unfold wholeV wholeF
  split
  · rfl
  · rw [h]; rfl
theorem wholeV_ok {l : List UInt8} (h0 : l ≠ []) (h1 : l.length ≤ 15) (h : l.all digB = true) : wholeV l = .tuple #[.int .i64 (digVal l : Nat), .bool true] := by
  unfold wholeV wholeF
  rw [if_neg (by simp [h0]; omega), if_pos h]
theorem digVal_bd : ∀ (l : List UInt8), l.all digB = true → digVal l < 10 ^ l.length := by
  intro l
  induction l with
  | nil => intro _; decide
  | cons b r ih =>
    intro h
    rw [List.all_cons, Bool.and_eq_true] at h
    have := ih h.2
    have hb := h.1
    simp only [digB, Bool.and_eq_true, decide_eq_true_eq] at hb
    rw [digVal_cons, List.length_cons, Nat.pow_succ]
    have : (b.toNat - 48) * 10 ^ r.length ≤ 9 * 10 ^ r.length := Nat.mul_le_mul_right _ (by omega)
    omega
theorem str_get {s : ByteArray} {k : Nat} (h : k < s.size) : ∃ h' : k < s.data.toList.length, s.data.toList[k] = s[k] := ⟨by simpa using h, rfl⟩
set_option maxHeartbeats 1000000 in
set_option maxRecDepth 100000 in
theorem whole_any (s : ByteArray) (w : World) :
    Calls Tryz.prog 39 #[.string s] w fun e w' => e = .returned (wholeV s.data.toList) ∧ w = w' := by
  by_cases h0 : s = ⟨#[]⟩
  · subst h0
    go_enter Tryz.func39, Tryz.ntmps39
    go_wp2
    go_ret2
    exact ⟨ret_val (wholeV_no (.inl rfl)).symm, rfl⟩
  have hne : s.data.toList ≠ [] := fun e => h0 (ba_of e)
  have se : s.toList.isEmpty = false := by rw [ByteArray.toList_eq]; simpa using hne
  have hsl : s.data.toList.length = s.size := rfl
  by_cases h1 : 15 < s.size
  · have HE := Lib.hid (wholeV_no (l := s.data.toList) (.inr (by rw [hsl]; exact h1)))
    clear hne hsl h0
    go_enter Tryz.func39, Tryz.ntmps39
    go_wp2
    go_ret2
    exact ⟨ret_val HE.out.symm, rfl⟩
  have hs : s.size ≤ 15 := by omega
  have HNE := Lib.hid hne
  have HSL := Lib.hid hsl
  clear hne hsl h0 h1
  go_enter Tryz.func39, Tryz.ntmps39
  go_wp2
  go_loop [4, 5] (fun n i => ∃ k v : Nat, k ≤ s.size ∧ i = .int .i64 (k : Int) ∧ n = .int .i64 (v : Int) ∧ v ≤ 1000000000000000 ∧ Hid (v = digVal (s.data.toList.take k) ∧ (s.data.toList.take k).all digB = true)) (fun _ i => s.size - (intOf i).toNat)
  case atStart => exact ⟨0, 0, Nat.zero_le _, rfl, rfl, by omega, Lib.hid ⟨rfl, rfl⟩⟩
  case round =>
    obtain ⟨k, v, hk, rfl, rfl, hv, HD⟩ := hrel
    by_cases hlt : k < s.size
    · obtain ⟨h', hg⟩ := str_get hlt
      obtain ⟨b, hb⟩ : ∃ b, s[k] = b := ⟨_, rfl⟩
      have HB := Lib.hid hb
      have HTK := Lib.hid (show s.data.toList.take (k + 1) = s.data.toList.take k ++ [b] by rw [List.take_succ_eq_append_getElem h', hg, hb])
      have HBad := Lib.hid (show digB b = false → s.data.toList.all digB = false from fun h => by
        rw [Bool.eq_false_iff]
        intro e
        rw [List.all_eq_true] at e
        have := e s.data.toList[k] (List.getElem_mem h')
        rw [hg, hb, h] at this
        cases this)
      clear hg
      by_cases h1 : ((s[k].toNat : Nat) : Int) < 48
      · have HF := Lib.hid (wholeV_bad (HBad.out (by rw [← HB.out]; unfold digB; simp; omega)))
        clear hb
        go_wp2
        go_ret2
        exact ⟨ret_val HF.out.symm, rfl⟩
      · by_cases h2 : 57 < ((s[k].toNat : Nat) : Int)
        · have HF := Lib.hid (wholeV_bad (HBad.out (by rw [← HB.out]; unfold digB; simp; omega)))
          clear hb
          go_wp2
          go_ret2
          exact ⟨ret_val HF.out.symm, rfl⟩
        · have hda : (s.data.toList.take (k + 1)).all digB = true := by
            rw [HTK.out, List.all_append, HD.out.2, List.all_cons, ← HB.out]
            unfold digB
            simp
            omega
          have hdv : v * 10 + (s[k].toNat - 48) = digVal (s.data.toList.take (k + 1)) := by rw [HTK.out, digVal_snoc, ← HD.out.1, ← HB.out]
          have hbd := digVal_bd _ hda
          have hle : digVal (s.data.toList.take (k + 1)) ≤ 1000000000000000 := by
            have : 10 ^ (s.data.toList.take (k + 1)).length ≤ 10 ^ 15 := Nat.pow_le_pow_right (by omega) (by rw [List.length_take, HSL.out]; omega)
            omega
          rw [← hdv] at hle
          have HN := Lib.hid (And.intro hdv hda)
          have hge : 48 ≤ s[k].toNat := by omega
          clear hb hda hdv hbd
          go_wp2
          go_round
          case rel => exact ⟨k + 1, v * 10 + (s[k].toNat - 48), by omega, by go_num, by first | go_num | (congr 1; omega), hle, HN⟩
          case measure => simp [intOf]; omega
    · have HA := Lib.hid (show wholeV s.data.toList = .tuple #[.int .i64 (v : Nat), .bool true] by
        have h := HD.out
        rw [List.take_of_length_le (by rw [HSL.out]; omega)] at h
        rw [wholeV_ok HNE.out (by rw [HSL.out]; omega) h.2, h.1])
      go_wp2
      go_ret2
      exact ⟨ret_val HA.out.symm, rfl⟩
abbrev Tab (w : World) : Prop := Lib.TabIs Tryz.prog w "internal/strconv.uint64pow10" .u64 Lib.pow10Tab
theorem Tab.below {w w' : World} (h : Tab w) (hb : Below w.heap.size w w') : Tab w' := by
  unfold Tab Lib.TabIs World.var? at *
  cases hg : Tryz.prog.globalNamed "internal/strconv.uint64pow10" with
  | none => rw [hg] at h; cases h
  | some g =>
    rw [hg] at h
    simp only [Option.bind_some] at h ⊢
    have hlt : g < w.heap.size := by
      rcases Nat.lt_or_ge g w.heap.size with h' | h'
      · exact h'
      · rw [Array.getElem?_eq_none h'] at h; cases h
    rw [hb.block g hlt]
    exact h
theorem itoa_any (n : Int) (w : World) (h0 : -9223372036854775808 ≤ n) (h1 : n ≤ 9223372036854775807) (htab : Tab w) :
    Calls Tryz.prog 15 #[.int .i64 n] w fun e w' => (∃ t : ByteArray, e = .returned (.string t) ∧ t.data.toList = Lib.itoa n) ∧ Below w.heap.size w w' :=
  (Tryz.strconv_Itoa n h0 h1 w htab).mono fun _ _ ⟨he, _, _, hw⟩ => ⟨⟨_, he, rfl⟩, hw ▸ Lib.below_grow _ w (Nat.le_refl _) _ _⟩
end Go.Proofs.YthnknmkekbledaaGreatDoor
