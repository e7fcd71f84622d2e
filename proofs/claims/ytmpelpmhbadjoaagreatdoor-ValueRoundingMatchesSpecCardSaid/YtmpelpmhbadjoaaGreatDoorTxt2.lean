/- The walk of digits: a natural's decimal text. -/
import Derived.Test.YtmpelpmhbadjoaaGreatDoorTxt
namespace Go.Proofs.YtmpelpmhbadjoaaGreatDoor
open Go.RowKit Limb Dig

theorem byteCells_app (a b : List UInt8) : Lib.byteCells a ++ Lib.byteCells b = Lib.byteCells (a ++ b) := by simp [Lib.byteCells]
theorem bld_new (w : World) : Lib.IsBuilder 89 5 w.heap.size w.heap.size (Lib.byteCells (allD [])) (w.alloc (.cells #[.pointer none, .slice none 0 0] 89 (0, 0))) :=
  .inl ⟨Nat.le_refl _, .slice none 0 0, by show (w.heap.push _)[w.heap.size]? = _; rw [Array.getElem?_push, if_pos rfl], World.ownsRow_nil _ _ _ _, by simp [Value.ownBlock]⟩
theorem bldAt_below {T e : TypeId} {B b : Nat} {p : Value} {bs : List Value} {w w' : World} (h : Lib.BuilderAt T e B b p bs w) (hb : Below w.heap.size w w') : Lib.BuilderAt T e B b p bs w' := by
  have hlt := h.lt
  obtain ⟨hB, v, hbk, hown, hne⟩ := h
  refine ⟨hB, v, (hb.block b hlt).trans hbk, ?_, hne⟩
  refine hown.kept (row := none) ⟨hb.os, hb.tape, hb.output, hb.size, fun k hk _ => hb.block k hk⟩ ?_
  cases hv : v.ownBlock with
  | none => exact .inl rfl
  | some g => exact .inr (by simp)
theorem bld_below {T e : TypeId} {B b : Nat} {bs : List Value} {w w' : World} (h : Lib.IsBuilder T e B b bs w) (hb : Below w.heap.size w w') : Lib.IsBuilder T e B b bs w' :=
  h.imp (bldAt_below · hb) (bldAt_below · hb)
set_option maxHeartbeats 1000000 in
set_option maxRecDepth 100000 in
theorem digits_any (L x : Nat) (v : Value) (w : World) (h : Rep w L v x) (hL : L ≤ 100000) (htab : Tab w) :
    Calls Tryz.prog 48 #[v] w fun e w' => e = .returned (.string ⟨(decS x).toArray⟩) ∧ Below w.heap.size w w' := by
  obtain ⟨l, A, c, rfl, hs, ht, hv, hr, hc, hcm, hlL⟩ := h.ex
  have HX := Lib.hid (decS_of hs ht hv)
  have HT := Lib.hid htab
  have HR := Lib.hid hr
  clear h htab hr hv ht
  go_enter Tryz.func48, Tryz.ntmps48
  by_cases h0 : l.length = 0
  · have hl0 : l = [] := List.eq_nil_of_length_eq_zero h0
    have HF := Lib.hid (show decS x = [48] by rw [← HX.out, hl0]; rfl)
    rw [h0]
    go_wp2
    go_ret
    refine ⟨?_, Below.refl _ _⟩
    show Ending.returned (.string ⟨#[48]⟩) = _
    rw [HF.out]
  have HNE := Lib.hid (show l ≠ [] from fun e => h0 (by rw [e]; rfl))
  have hb0 : (((l.length : Nat) : Int) == 0) = false := by simpa using HNE.out
  go_wp2
  go_loopw [4] (fun s wr => ∃ m : Nat, m ≤ l.length ∧ s = .int .i64 ((m : Int) - 1) ∧ Lib.IsBuilder 89 5 w.heap.size w.heap.size (Lib.byteCells (allD (l.drop m))) wr ∧ Below w.heap.size w wr) (fun s _ => (intOf s + 1).toNat)
  case atStart => exact ⟨l.length, Nat.le_refl _, rfl, by rw [List.drop_length]; exact bld_new w, (Below.refl _ w).alloc (Nat.le_refl _) _⟩
  case round =>
    obtain ⟨m, hm, rfl, hbd, hbr⟩ := hrel
    have HBD := Lib.hid hbd
    clear hbd
    by_cases hm0 : 0 < m
    · obtain ⟨i, rfl⟩ : ∃ i, m = i + 1 := ⟨m - 1, by omega⟩
      have ec : ((i + 1 : Nat) : Int) - 1 = (i : Int) := by omega
      rw [ec]
      have hi : i < l.length := by omega
      obtain ⟨ad, rfl, hca⟩ := (HR.out.below hbr).limb hi
      obtain ⟨y, hy⟩ : ∃ y, l[i] = y := ⟨_, rfl⟩
      have hy1 : y < 1000000000 := by rw [← hy]; exact hs.at_ hi
      rw [hy] at hca
      have HD := Lib.hid (show allD (l.drop i) = allD (l.drop (i + 1)) ++ pad9 y by rw [List.drop_eq_getElem_cons hi, allD, hy])
      have HLN := Lib.hid (show (allD (l.drop (i + 1))).length ≤ 900000 by
        rw [(allD_val _ (hs.drop (i + 1))).2]
        simp
        omega)
      have HP9 := Lib.hid (pad9_len hy1)
      clear hy
      go_wp2_with fail
      refine (padded_any y wr hy1 (HT.out.below hbr)).mono ?_
      rintro e w2 ⟨rfl, hb2⟩
      have hbd2 := bld_below HBD.out hb2
      have hw2 := Nat.le_trans hbr.size hb2.size
      go_wp2_with fail
      refine (writeString_any w.heap.size w.heap.size _ _ w2 hbd2 (by rw [Lib.byteCells_length]; have := HLN.out; have := dsize (t := ⟨(pad9 y).toArray⟩) (l := pad9 y) rfl; have := HP9.out; omega) hw2).mono ?_
      rintro e w3 ⟨rfl, hb3, hbw⟩
      rw [Lib.strCells_toArray, byteCells_app, ← HD.out] at hb3
      have HB3 := Lib.hid hb3
      have hbw2 := (hbr.trans (hb2.mono hbr.size)).trans hbw
      clear hb3 hbd2
      go_wp2
      go_roundw
      case rel => exact ⟨i, by omega, by go_num, .inr HB3.out, hbw2⟩
      case measure => simp [intOf]
    · obtain rfl : m = 0 := by omega
      have hs1 := hbr.size
      go_wp2_with fail
      refine (Tryz.Builder_String_any w.heap.size w.heap.size (allD l) wr HBD.out hs1).mono ?_
      rintro e w2 ⟨rfl, hb2⟩
      go_wp2_with fail
      refine (Tryz.strings_TrimLeft_one ⟨(allD l).toArray⟩ 48 (by decide) w2).mono ?_
      rintro e w3 ⟨rfl, rfl⟩
      have HF := Lib.hid (show (⟨(Lib.trimLeftB (allD l) 48).toArray⟩ : ByteArray) = ⟨(decS x).toArray⟩ by
        rw [← HX.out, decL, if_neg HNE.out]
        rfl)
      go_wp2
      go_ret
      refine ⟨?_, hbr.trans hb2⟩
      show Ending.returned (.string ⟨(Lib.trimLeftB (allD l) 48).toArray⟩) = _
      rw [HF.out]
end Go.Proofs.YtmpelpmhbadjoaaGreatDoor
