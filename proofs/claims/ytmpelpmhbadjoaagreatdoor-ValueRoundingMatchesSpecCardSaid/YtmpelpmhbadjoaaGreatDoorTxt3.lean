/- The walk of isDigits. -/
import Derived.Test.YtmpelpmhbadjoaaGreatDoorTxt2
namespace Go.Proofs.YtmpelpmhbadjoaaGreatDoor
open Go.RowKit Limb Dig

theorem sound_nil : ¬ Sound [] := fun h => h.2.1 rfl
theorem sound_zero : Sound [48] := ⟨by intro b hb; rw [List.mem_singleton.1 hb]; unfold isDig; decide, by simp, .inr rfl⟩
/-- a Boolean answer, said as a proposition -/
structure IsB (e : Ending) (P : Prop) : Prop where
  ex : ∃ b, e = .returned (.bool b) ∧ (b = true ↔ P)
set_option maxHeartbeats 1000000 in
set_option maxRecDepth 100000 in
theorem isDigits_any (s : ByteArray) (w : World) (hs : s.size ≤ maxLen) :
    Calls Tryz.prog 56 #[.string s] w fun e w' => IsB e (Sound s.data.toList) ∧ w = w' := by
  unfold maxLen at hs
  have hsl : s.data.toList.length = s.size := rfl
  go_enter Tryz.func56, Tryz.ntmps56
  go_wp2
  go_loop [3] (fun i => ∃ k : Nat, k ≤ s.size ∧ i = .int .i64 (k : Int) ∧ ∀ b ∈ s.data.toList.take k, isDig b) (fun i => s.size - (intOf i).toNat)
  case atStart => exact ⟨0, Nat.zero_le _, rfl, by simp⟩
  case round =>
    obtain ⟨k, hk, rfl, hd⟩ := hrel
    have HD := Lib.hid hd
    clear hd
    by_cases hlt : k < s.size
    · have hm : s[k] ∈ s.data.toList := by
        have : s[k] = s.data.toList[k]'(by rw [hsl]; exact hlt) := rfl
        rw [this]
        exact List.getElem_mem _
      have HM := Lib.hid hm
      clear hm
      by_cases h1 : ((s[k].toNat : Nat) : Int) < 48
      · have HF := Lib.hid (show ¬ Sound s.data.toList from fun h => by have := h.1 _ HM.out; unfold isDig at this; omega)
        go_wp2
        go_ret
        exact ⟨⟨⟨_, rfl, by simp [HF.out]⟩⟩, rfl⟩
      · by_cases h2 : 57 < ((s[k].toNat : Nat) : Int)
        · have HF := Lib.hid (show ¬ Sound s.data.toList from fun h => by have := h.1 _ HM.out; unfold isDig at this; omega)
          go_wp2
          go_ret
          exact ⟨⟨⟨_, rfl, by simp [HF.out]⟩⟩, rfl⟩
        · have HN := Lib.hid (show ∀ b ∈ s.data.toList.take (k + 1), isDig b by
            intro b hb
            rw [List.take_succ_eq_append_getElem (by rw [hsl]; exact hlt)] at hb
            rcases List.mem_append.1 hb with hb | hb
            · exact HD.out b hb
            · rw [List.mem_singleton.1 hb]
              have : s.data.toList[k]'(by rw [hsl]; exact hlt) = s[k] := rfl
              rw [this]
              unfold isDig
              omega)
          go_wp2
          go_round
          case rel => exact ⟨k + 1, by omega, by go_num, HN.out⟩
          case measure => simp [intOf]; omega
    · have HA := Lib.hid (show ∀ b ∈ s.data.toList, isDig b by
        have := HD.out
        rwa [List.take_of_length_le (by omega)] at this)
      by_cases h0 : s.size = 0
      · have he : s.data.toList = [] := List.eq_nil_of_length_eq_zero (by rw [hsl]; exact h0)
        have es : s = ⟨#[]⟩ := ba_of he
        clear HD HA hsl he h0 hlt
        subst es
        go_wp2
        go_ret
        exact ⟨⟨⟨_, rfl, by simp [sound_nil]⟩⟩, rfl⟩
      · have hne : s.data.toList ≠ [] := fun e => h0 (by rw [← hsl, e]; rfl)
        have se : s.toList.isEmpty = false := by rw [ByteArray.toList_eq]; simpa using hne
        have hp : 0 < s.size := by omega
        have hh : s.data.toList.head? = some s[0] := by
          rw [List.head?_eq_getElem?, List.getElem?_eq_getElem (by rw [hsl]; exact hp)]
          rfl
        have HNE := Lib.hid hne
        have HH := Lib.hid hh
        clear hne hh
        by_cases h1 : ((s[0].toNat : Nat) : Int) = 48
        · have hb : s[0] = 48 := UInt8.toNat_inj.1 (by simp; omega)
          have HB := Lib.hid hb
          clear hb
          by_cases h2 : s = ⟨#[48]⟩
          · have hk1 : k = 1 := by
              have e : s.size = 1 := by rw [h2]; rfl
              omega
            clear HD HA hsl HNE HH HB h1 hp se h0 hlt hk hs
            subst hk1
            subst h2
            go_wp2
            go_ret
            exact ⟨⟨⟨_, rfl, by simp [sound_zero]⟩⟩, rfl⟩
          · have s2 : (s.toList == [48]) = false := by
              rw [ByteArray.toList_eq, beq_eq_false_iff_ne]
              exact fun e => h2 (ba_of e)
            have HF := Lib.hid (show ¬ Sound s.data.toList from fun h => by
              rcases h.2.2 with h3 | h3
              · exact h3 (by rw [HH.out, HB.out])
              · exact h2 (ba_of h3))
            go_wp2
            go_ret
            exact ⟨⟨⟨_, rfl, by simp [HF.out]⟩⟩, rfl⟩
        · have HF := Lib.hid (show Sound s.data.toList from ⟨HA.out, HNE.out, .inl (fun e => by
            rw [HH.out] at e
            injection e with e
            rw [e] at h1
            exact h1 rfl)⟩)
          have hb1 : (((s[0].toNat : Nat) : Int) != 48) = true := by simpa using h1
          go_wp2
          go_ret
          exact ⟨⟨⟨_, rfl, by simp [HF.out]⟩⟩, rfl⟩
end Go.Proofs.YtmpelpmhbadjoaaGreatDoor
