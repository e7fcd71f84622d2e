/- The walks of show and Show: a value's text. -/
import Derived.Test.YthnknmkekbledaaGreatDoorVw5
import Derived.Test.YthnknmkekbledaaGreatDoorDate
namespace Go.Proofs.YthnknmkekbledaaGreatDoor
open Go.RowKit Dig Vtx

theorem replaceAll_any (s o n : ByteArray) (w : World) (hs : s.size ≤ 2000000) (h1 : 1 ≤ o.size) (hn : n.size ≤ 2) (hm : Mx w) :
    Calls Tryz.prog 14 #[.string s, .string o, .string n] w fun e w' => (∃ t : ByteArray, e = .returned (.string t) ∧ t.data.toList = Lib.replaceAll s.data.toList o.data.toList n.data.toList) ∧ Below w.heap.size w w' := by
  obtain ⟨m, hm⟩ := hm
  have hc := Lib.countB_le o h1 s.size s (Nat.le_refl _)
  have : Lib.countB s o * n.size ≤ s.size * 2 := Nat.mul_le_mul hc hn
  exact (Tryz.strings_ReplaceAll s o n m w (by omega) hm h1 (by omega)).mono fun _ _ ⟨he, hb⟩ => ⟨⟨_, he, rfl⟩, hb⟩
theorem esc_len (s : List UInt8) : (Lib.replaceAll s [39] [39, 39]).length ≤ 2 * s.length := by
  rw [replaceAll_repl (by simp), repl_subst1]
  induction s with
  | nil => simp [subst1]
  | cons b r ih =>
    have e : subst1 39 [39, 39] (b :: r) = (if b = 39 then [39, 39] else [b]) ++ subst1 39 [39, 39] r := by simp [subst1]
    rw [e, List.length_append, List.length_cons]
    split <;> simp <;> omega
set_option maxHeartbeats 4000000 in
set_option maxRecDepth 100000 in
theorem show_any (k n : Int) (s : ByteArray) (l : List Int) (S : List UInt8) (A : Option Addr) (c B1 : Nat) (w : World) (hS : s.data.toList = S) (hq : Snd k n S l) (hl : l.length ≤ 1000) (hs : s.size ≤ 1000)
    (hx : Reads w B1 1 A l.length (numV .i64 l)) (hB1 : B1 ≤ w.heap.size) (htab : Tab w) (hm : Mx w) :
    Calls Tryz.prog 10 #[.agg #[.int .i64 k, .int .i64 n, .string s, .slice A l.length c]] w fun e w' => (∃ t : ByteArray, e = .returned (.string t) ∧ t.data.toList = showT k n S l) ∧ Below w.heap.size w w' := by
  have HT := Lib.hid htab
  have HM := Lib.hid hm
  have HX := Lib.hid (hx.more hB1)
  have HS := Lib.hid hS
  clear htab hm hx hS hB1
  have hba : ∀ o : Obj, Below w.heap.size w (w.alloc o) := fun o => (Below.refl _ _).alloc (Nat.le_refl _) _
  have HBA := Lib.hid hba
  clear hba
  cases hq with
  | none_ =>
    go_enter Tryz.func10, Tryz.ntmps10
    go_wp2
    go_ret
    exact ⟨⟨_, rfl, rfl⟩, HBA.out _⟩
  | word h1 h2 =>
    have i1 : ∀ w, (Instr.index 48 (.agg #[.string ⟨#[]⟩, .string ⟨#[100, 111, 110, 116, 107, 110, 111, 119]⟩, .string ⟨#[114, 101, 102, 117, 115, 101, 100]⟩, .string ⟨#[110, 111, 97, 110, 115, 119, 101, 114]⟩]) (.int .i64 1)).run Tryz.prog w = .ok (.string ⟨#[100, 111, 110, 116, 107, 110, 111, 119]⟩) w := fun _ => by kernel_rfl
    have i2 : ∀ w, (Instr.index 48 (.agg #[.string ⟨#[]⟩, .string ⟨#[100, 111, 110, 116, 107, 110, 111, 119]⟩, .string ⟨#[114, 101, 102, 117, 115, 101, 100]⟩, .string ⟨#[110, 111, 97, 110, 115, 119, 101, 114]⟩]) (.int .i64 2)).run Tryz.prog w = .ok (.string ⟨#[114, 101, 102, 117, 115, 101, 100]⟩) w := fun _ => by kernel_rfl
    have i3 : ∀ w, (Instr.index 48 (.agg #[.string ⟨#[]⟩, .string ⟨#[100, 111, 110, 116, 107, 110, 111, 119]⟩, .string ⟨#[114, 101, 102, 117, 115, 101, 100]⟩, .string ⟨#[110, 111, 97, 110, 115, 119, 101, 114]⟩]) (.int .i64 3)).run Tryz.prog w = .ok (.string ⟨#[110, 111, 97, 110, 115, 119, 101, 114]⟩) w := fun _ => by kernel_rfl
    obtain rfl | rfl | rfl : n = 1 ∨ n = 2 ∨ n = 3 := by omega
    all_goals
      go_enter Tryz.func10, Tryz.ntmps10
      go_wp2
      go_ret
      exact ⟨⟨_, rfl, rfl⟩, HBA.out _⟩
  | num h1 h2 =>
    have HR := Lib.hid (fun w' => showNumber_any n w' h1 h2)
    go_enter Tryz.func10, Tryz.ntmps10
    go_wp2_with fail
    refine (HR.out _ (HT.out.below (HBA.out _))).mono ?_
    rintro e w1 ⟨⟨t, rfl, ht⟩, hb⟩
    have hbw := (HBA.out _).trans (hb.mono (HBA.out _).size)
    have HTT := Lib.hid ht
    clear ht hb
    go_wp2
    go_ret
    exact ⟨⟨_, rfl, HTT.out⟩, hbw⟩
  | text S =>
    go_enter Tryz.func10, Tryz.ntmps10
    go_wp2_with fail
    refine (replaceAll_any s ⟨#[39]⟩ ⟨#[39, 39]⟩ _ (by omega) (Nat.le_refl 1) (Nat.le_refl 2) (HM.out.below (HBA.out _))).mono ?_
    rintro e w1 ⟨⟨t, rfl, ht⟩, hb⟩
    rw [HS.out] at ht
    have hbw := (HBA.out _).trans (hb.mono (HBA.out _).size)
    have HTT := Lib.hid (show t.data.toList = Lib.replaceAll S [39] [39, 39] from ht)
    have htl : t.size ≤ 2000 := by
      rw [dsize HTT.out]
      have h1 := esc_len S
      have h2 : S.length = s.size := by rw [← HS.out]; rfl
      omega
    clear ht hb
    go_wp2
    go_ret
    exact ⟨⟨_, rfl, by rw [toList_app, toList_app, HTT.out]; rfl⟩, hbw⟩
  | code h1 h2 =>
    go_enter Tryz.func10, Tryz.ntmps10
    go_wp2_with fail
    refine (itoa_any n _ (by omega) (by omega) (HT.out.below (HBA.out _))).mono ?_
    rintro e w1 ⟨⟨t, rfl, ht⟩, hb⟩
    have hbw := (HBA.out _).trans (hb.mono (HBA.out _).size)
    have HTT := Lib.hid ht
    have htl : t.size ≤ 20 := by
      rw [dsize ht]
      obtain ⟨m, rfl⟩ : ∃ m : Nat, n = m := ⟨n.toNat, by omega⟩
      rw [itoa_nat]
      have := dec_len 2 m (by omega)
      omega
    clear ht hb
    go_wp2
    go_ret
    exact ⟨⟨_, rfl, by rw [toList_app, HTT.out]; rfl⟩, hbw⟩
  | set h =>
    have HC := Lib.hid h
    clear h
    go_enter Tryz.func10, Tryz.ntmps10
    go_wp2_with fail
    refine (showSet_any A l c w.heap.size _ hl HC.out (HX.out.below (HBA.out _)) (HBA.out _).size (HT.out.below (HBA.out _))).mono ?_
    rintro e w1 ⟨⟨t, rfl, ht⟩, hb⟩
    have hbw := (HBA.out _).trans (hb.mono (HBA.out _).size)
    have HTT := Lib.hid ht
    clear ht hb
    go_wp2
    go_ret
    exact ⟨⟨_, rfl, HTT.out⟩, hbw⟩
  | day h1 h2 =>
    obtain ⟨y, m, d, ey, em, ed, hy, hmm, hd, hok, hn⟩ := day_parts h1 h2
    have HY := Lib.hid (And.intro ey (And.intro em ed))
    have HL := Lib.hid (And.intro (pad_len (w := 4) (n := y) (dec_len 3 y hy)) (And.intro (pad_len (w := 2) (n := m) (dec_len 1 m hmm)) (pad_len (w := 2) (n := d) (dec_len 1 d hd))))
    have HCV := Lib.hid (fun w' => civil_any n w' h1 h2)
    clear ey em ed hok hn
    go_enter Tryz.func10, Tryz.ntmps10
    go_wp2_with fail
    refine (HCV.out _).mono ?_
    rw [HY.out.1, HY.out.2.1, HY.out.2.2]
    rintro e w1 ⟨rfl, rfl⟩
    have hb0 := HBA.out (.cells #[.int .i64 6, .int .i64 n, .string s, .slice A ([] : List Int).length c] 24 (0, 0))
    go_wp2_with fail
    refine (padded_any y 4 _ (by omega) (by omega) (by omega) (HT.out.below (HBA.out _))).mono ?_
    rintro e w1 ⟨⟨t1, rfl, ht1⟩, hb1⟩
    have hbw := (HBA.out _).trans (hb1.mono (HBA.out _).size)
    have HT1 := Lib.hid ht1
    have hl1 : t1.size ≤ 4 := by rw [dsize ht1, HL.out.1]; exact Nat.le_refl _
    clear ht1 hb1 hb0
    go_wp2_with fail
    refine (padded_any m 2 w1 (by omega) (by omega) (by omega) (HT.out.below hbw)).mono ?_
    rintro e w2 ⟨⟨t2, rfl, ht2⟩, hb2⟩
    have hbw := hbw.trans (hb2.mono hbw.size)
    have HT2 := Lib.hid ht2
    have hl2 : t2.size ≤ 2 := by rw [dsize ht2, HL.out.2.1]; exact Nat.le_refl _
    clear ht2 hb2
    go_wp2_with fail
    refine (padded_any d 2 w2 (by omega) (by omega) (by omega) (HT.out.below hbw)).mono ?_
    rintro e w3 ⟨⟨t3, rfl, ht3⟩, hb3⟩
    have hbw := hbw.trans (hb3.mono hbw.size)
    have HT3 := Lib.hid ht3
    have hl3 : t3.size ≤ 2 := by rw [dsize ht3, HL.out.2.2]; exact Nat.le_refl _
    clear ht3 hb3
    go_wp2
    go_ret
    refine ⟨⟨_, rfl, ?_⟩, hbw⟩
    show _ = dayT n
    unfold dayT
    rw [HY.out.1, HY.out.2.1, HY.out.2.2]
    simp only [toList_app, HT1.out, HT2.out, HT3.out]
    rfl
  | bool h1 h2 =>
    obtain rfl | rfl : n = 0 ∨ n = 1 := by omega
    all_goals
      go_enter Tryz.func10, Tryz.ntmps10
      go_wp2_with fail
      refine (Tryz.strconv_FormatBool _ _).mono ?_
      rintro e w1 ⟨rfl, rfl⟩
      go_wp2
      go_ret
      exact ⟨⟨_, rfl, by decide +kernel⟩, HBA.out _⟩
end Go.Proofs.YthnknmkekbledaaGreatDoor
