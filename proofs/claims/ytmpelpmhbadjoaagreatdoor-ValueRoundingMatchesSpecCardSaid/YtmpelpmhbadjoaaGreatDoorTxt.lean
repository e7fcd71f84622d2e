/- The walks of the texts of naturals: padded. -/
import Derived.Test.YtmpelpmhbadjoaaGreatDoorBld
import Derived.Test.YtmpelpmhbadjoaaGreatDoorDig
import Derived.Test.YtmpelpmhbadjoaaGreatDoorShelf
import Derived.Test.YtmpelpmhbadjoaaGreatDoorNat10
import Derived.Lib.AppendIntMem
namespace Go.Proofs.YtmpelpmhbadjoaaGreatDoor
open Go.RowKit Limb Dig

abbrev Tab (w : World) : Prop := Lib.TabIs Tryz.prog w "internal/strconv.uint64pow10" .u64 Lib.pow10Tab
theorem Tab.below {w w' : World} (h : Tab w) (hb : Below w.heap.size w w') : Tab w' := by
  unfold Tab Lib.TabIs World.var? at *
  cases hg : Tryz.prog.globalNamed "internal/strconv.uint64pow10" with
  | none => rw [hg] at h; cases h
  | some g =>
    rw [hg] at h
    simp only [Option.bind_some] at h ⊢
    have hlt : g < w.heap.size := by
      rcases Nat.lt_or_ge g w.heap.size with h' | h'
      · exact h'
      · rw [Array.getElem?_eq_none h'] at h; cases h
    rw [hb.block g hlt]
    exact h
theorem dsize {t : ByteArray} {l : List UInt8} (h : t.data.toList = l) : t.size = l.length := by rw [← h]; rfl
theorem ba_of {t : ByteArray} {l : List UInt8} (h : t.data.toList = l) : t = ⟨l.toArray⟩ := by rw [← h]
set_option maxHeartbeats 1000000 in
theorem padded_any (n : Nat) (w : World) (hn : n < 1000000000) (htab : Tab w) :
    Calls Tryz.prog 72 #[.int .i64 (n : Int), .int .i64 9] w fun e w' => e = .returned (.string ⟨(pad9 n).toArray⟩) ∧ Below w.heap.size w w' := by
  have hl9 := dec_len 8 n (by simpa using hn)
  have HT := Lib.hid htab
  clear htab
  go_enter Tryz.func72, Tryz.ntmps72
  go_wp2_with fail
  refine (Tryz.strconv_Itoa (n : Int) (by omega) (by omega) w HT.out).mono ?_
  rintro e w1 ⟨rfl, kk, os, hw1⟩
  have hb1 : Below w.heap.size w w1 := by rw [hw1]; exact Lib.below_grow _ w (Nat.le_refl _) _ _
  have eI : Lib.itoa (n : Int) = Lib.decDigits n := by simp [Lib.itoa]
  rw [eI]
  clear hw1 eI HT
  obtain ⟨t, et⟩ : ∃ t : ByteArray, t = ⟨(Lib.decDigits n).toArray⟩ := ⟨_, rfl⟩
  rw [← et]
  have ht : t.data.toList = zeros 0 ++ Lib.decDigits n := by rw [et]; rfl
  have HT0 := Lib.hid ht
  clear et ht
  go_wp2
  go_loop [5] (fun s => ∃ (k : Nat) (t : ByteArray), s = .string t ∧ t.data.toList = zeros k ++ Lib.decDigits n ∧ k + (Lib.decDigits n).length ≤ 9) (fun s => match s with | .string t => 9 - t.size | _ => 0)
  case atStart => exact ⟨0, t, rfl, HT0.out, by omega⟩
  case round =>
    obtain ⟨k, t, rfl, ht, hk⟩ := hrel
    have hs := dsize ht
    simp only [List.length_append, zeros, List.length_replicate] at hs
    have HT1 := Lib.hid ht
    clear ht HT0
    by_cases h9 : t.size < 9
    · have HN := Lib.hid (show ((⟨#[48]⟩ : ByteArray) ++ t).data.toList = zeros (k + 1) ++ Lib.decDigits n by
        rw [ByteArray.data_append, Array.toList_append, HT1.out, zeros, zeros, List.replicate_succ]
        rfl)
      go_wp2
      go_round
      case rel => exact ⟨k + 1, _, rfl, HN.out, by omega⟩
      case measure => have := dsize HN.out; simp [zeros] at this ⊢; omega
    · have HF := Lib.hid (show t = ⟨(pad9 n).toArray⟩ from ba_of (by rw [HT1.out, pad9]; congr 2; omega))
      go_wp2
      go_ret
      refine ⟨?_, hb1⟩
      show Ending.returned (.string t) = _
      rw [HF.out]
end Go.Proofs.YtmpelpmhbadjoaaGreatDoor
