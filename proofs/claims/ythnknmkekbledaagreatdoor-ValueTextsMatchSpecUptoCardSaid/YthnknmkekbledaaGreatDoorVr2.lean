/- The walk of the reference's Show: a value's text, or its fault. -/
import Derived.Test.YthnknmkekbledaaGreatDoorVr1
import Derived.Test.YthnknmkekbledaaGreatDoorVw7
namespace Go.Proofs.YthnknmkekbledaaGreatDoor
open Go.RowKit Dig Vtx

theorem joinTail_snoc (sep : List UInt8) (r : List (List UInt8)) (p : List UInt8) : Lib.joinTail sep (r ++ [p]) = Lib.joinTail sep r ++ (sep ++ p) := by simp [Lib.joinTail]
theorem join_snoc (ps : List (List UInt8)) (p : List UInt8) (sep : List UInt8) : Lib.join (ps ++ [p]) sep = Lib.join ps sep ++ (if ps = [] then [] else sep) ++ p := by
  cases ps with
  | nil => simp [Lib.join_nil, Lib.join_one]
  | cons a r => rw [List.cons_append, Lib.join_cons, Lib.join_cons, joinTail_snoc]; simp
/-- a set's text so far -/
def setK (l : List Int) (k : Nat) : List UInt8 := 123 :: Lib.join ((l.take k).map codeT) [44]
theorem setK_zero (l : List Int) : setK l 0 = [123] := rfl
theorem setK_snoc {l : List Int} {k : Nat} (h : k < l.length) : setK l (k + 1) = setK l k ++ (if k = 0 then [] else [44]) ++ codeT l[k] := by
  unfold setK
  rw [List.take_succ_eq_append_getElem h, List.map_append, List.map_cons, List.map_nil, join_snoc]
  have e : ((l.take k).map codeT = []) ↔ k = 0 := by
    rw [List.map_eq_nil_iff, List.take_eq_nil_iff]
    constructor
    · rintro (h0 | h0)
      · exact h0
      · subst h0; simp at h
    · exact Or.inl
  by_cases hk : k = 0
  · rw [if_pos (e.2 hk), if_pos hk]; simp
  · rw [if_neg (fun h => hk (e.1 h)), if_neg hk]; simp
theorem setK_all {l : List Int} {k : Nat} (h : l.length ≤ k) : setK l k ++ [125] = setT l := by
  unfold setK setT
  rw [List.take_of_length_le h]
theorem itoa_code {x : Int} (h1 : 1 ≤ x) (h2 : x ≤ 999) : (Lib.itoa x).length ≤ 3 := by
  obtain ⟨m, rfl⟩ : ∃ m : Nat, x = m := ⟨x.toNat, by omega⟩
  rw [itoa_nat]
  exact dec_len 2 m (by omega)
def RS (w : World) (S : List UInt8) (e : Ending) (w' : World) : Prop := (∃ t : ByteArray, e = .returned (.tuple #[.string t, .int .i64 0]) ∧ t.data.toList = S) ∧ Below w.heap.size w w'
set_option maxHeartbeats 4000000 in
set_option maxRecDepth 100000 in
theorem rshow_any (k n : Int) (s : ByteArray) (l : List Int) (S : List UInt8) (A : Option Addr) (c B1 : Nat) (w : World) (hS : s.data.toList = S) (hq : Snd k n S l) (hck : checkV ⟨k, n, s, l⟩ = 0) (hl : l.length ≤ 40) (hs : s.size ≤ 200)
    (hx : Reads w w.heap.size 1 A l.length (numV .i64 l)) (htab : Tab w) (hm : Mx w) :
    Calls Tryz.prog 5 #[.agg #[.int .i64 k, .int .i64 n, .string s, .slice A l.length c]] w (RS w (showT k n S l)) := by
  have HT := Lib.hid htab
  have HM := Lib.hid hm
  have HX := Lib.hid hx
  have HS := Lib.hid hS
  have HCK := Lib.hid hck
  clear htab hm hx hS hck
  cases hq with
  | none_ =>
    have HK := Lib.hid (fun w' h1 h2 => rcheck_any ⟨0, 0, s, ([] : List Int)⟩ A c w.heap.size w' (by show (([] : List Int) : List Int).length ≤ _; unfold maxLen; first | omega | (simp; done)) (by show (s : ByteArray).size ≤ _; unfold maxLen; omega) h1 h2)
    go_enter Tryz.func5, Tryz.ntmps5
    go_wp2_with fail
    obtain ⟨W, hW⟩ : ∃ W, W = (w.alloc (.cells #[.int .i64 0, .int .i64 0, .string s, .slice A 0 c] 24 (0, 0))) := ⟨_, rfl⟩
    have hbw : Below w.heap.size w W := by rw [hW]; exact ((Below.refl _ w).alloc (Nat.le_refl _) _)
    have B0 : Blk W (w.heap.size) 24 #[.int .i64 0, .int .i64 0, .string s, .slice A 0 c] := by
      rw [hW]
      have := Blk.new w 24 #[.int .i64 0, .int .i64 0, .string s, .slice A 0 c]
      exact this
    have hsz : W.heap.size = w.heap.size + 1 := by rw [hW]; simp
    rw [← hW]
    clear hW hsz
    refine (HK.out W (HX.out.below hbw) hbw.size).mono ?_
    rintro e w1 ⟨rfl, hb1⟩
    rw [HCK.out]
    have B0 := B0.below hb1 B0.lt
    have hbw := hbw.trans (hb1.mono hbw.size)
    clear hb1 HK
    have vc0 : w1.cell? ⟨w.heap.size, 0, none⟩ = some (.int .i64 0) := B0.cell 0
    have vc1 : w1.cell? ⟨w.heap.size, 1, none⟩ = some (.int .i64 0) := B0.cell 1
    have vc2 : w1.cell? ⟨w.heap.size, 2, none⟩ = some (.string s) := B0.cell 2
    have vc3 : w1.cell? ⟨w.heap.size, 3, none⟩ = some (.slice A 0 c) := B0.cell 3
    go_wp2
    go_ret2
    exact ⟨⟨_, rfl, rfl⟩, hbw⟩
  | word h1 h2 =>
    have HK := Lib.hid (fun w' h1 h2 => rcheck_any ⟨1, n, s, ([] : List Int)⟩ A c w.heap.size w' (by show (([] : List Int) : List Int).length ≤ _; unfold maxLen; first | omega | (simp; done)) (by show (s : ByteArray).size ≤ _; unfold maxLen; omega) h1 h2)
    go_enter Tryz.func5, Tryz.ntmps5
    go_wp2_with fail
    obtain ⟨W, hW⟩ : ∃ W, W = (w.alloc (.cells #[.int .i64 1, .int .i64 n, .string s, .slice A 0 c] 24 (0, 0))) := ⟨_, rfl⟩
    have hbw : Below w.heap.size w W := by rw [hW]; exact ((Below.refl _ w).alloc (Nat.le_refl _) _)
    have B0 : Blk W (w.heap.size) 24 #[.int .i64 1, .int .i64 n, .string s, .slice A 0 c] := by
      rw [hW]
      have := Blk.new w 24 #[.int .i64 1, .int .i64 n, .string s, .slice A 0 c]
      exact this
    have hsz : W.heap.size = w.heap.size + 1 := by rw [hW]; simp
    rw [← hW]
    clear hW hsz
    refine (HK.out W (HX.out.below hbw) hbw.size).mono ?_
    rintro e w1 ⟨rfl, hb1⟩
    rw [HCK.out]
    have B0 := B0.below hb1 B0.lt
    have hbw := hbw.trans (hb1.mono hbw.size)
    clear hb1 HK
    have vc0 : w1.cell? ⟨w.heap.size, 0, none⟩ = some (.int .i64 1) := B0.cell 0
    have vc1 : w1.cell? ⟨w.heap.size, 1, none⟩ = some (.int .i64 n) := B0.cell 1
    have vc2 : w1.cell? ⟨w.heap.size, 2, none⟩ = some (.string s) := B0.cell 2
    have vc3 : w1.cell? ⟨w.heap.size, 3, none⟩ = some (.slice A 0 c) := B0.cell 3
    go_wp2_with fail
    refine (reason_any n _ h1 h2).mono ?_
    rintro e w2 ⟨rfl, rfl⟩
    go_wp2
    go_ret2
    exact ⟨⟨_, rfl, rfl⟩, hbw⟩
  | num h1 h2 =>
    have HR := Lib.hid (fun w' => decimal_any n w' h1 h2)
    have HK := Lib.hid (fun w' h1 h2 => rcheck_any ⟨2, n, s, ([] : List Int)⟩ A c w.heap.size w' (by show (([] : List Int) : List Int).length ≤ _; unfold maxLen; first | omega | (simp; done)) (by show (s : ByteArray).size ≤ _; unfold maxLen; omega) h1 h2)
    go_enter Tryz.func5, Tryz.ntmps5
    go_wp2_with fail
    obtain ⟨W, hW⟩ : ∃ W, W = (w.alloc (.cells #[.int .i64 2, .int .i64 n, .string s, .slice A 0 c] 24 (0, 0))) := ⟨_, rfl⟩
    have hbw : Below w.heap.size w W := by rw [hW]; exact ((Below.refl _ w).alloc (Nat.le_refl _) _)
    have B0 : Blk W (w.heap.size) 24 #[.int .i64 2, .int .i64 n, .string s, .slice A 0 c] := by
      rw [hW]
      have := Blk.new w 24 #[.int .i64 2, .int .i64 n, .string s, .slice A 0 c]
      exact this
    have hsz : W.heap.size = w.heap.size + 1 := by rw [hW]; simp
    rw [← hW]
    clear hW hsz
    refine (HK.out W (HX.out.below hbw) hbw.size).mono ?_
    rintro e w1 ⟨rfl, hb1⟩
    rw [HCK.out]
    have B0 := B0.below hb1 B0.lt
    have hbw := hbw.trans (hb1.mono hbw.size)
    clear hb1 HK
    have vc0 : w1.cell? ⟨w.heap.size, 0, none⟩ = some (.int .i64 2) := B0.cell 0
    have vc1 : w1.cell? ⟨w.heap.size, 1, none⟩ = some (.int .i64 n) := B0.cell 1
    have vc2 : w1.cell? ⟨w.heap.size, 2, none⟩ = some (.string s) := B0.cell 2
    have vc3 : w1.cell? ⟨w.heap.size, 3, none⟩ = some (.slice A 0 c) := B0.cell 3
    go_wp2_with fail
    refine (HR.out _ (HT.out.below hbw)).mono ?_
    rintro e w2 ⟨⟨t, rfl, ht⟩, hb⟩
    have hbw := hbw.trans (hb.mono hbw.size)
    have HTT := Lib.hid ht
    clear ht hb
    go_wp2
    go_ret2
    exact ⟨⟨_, rfl, HTT.out⟩, hbw⟩
  | text S =>
    have HK := Lib.hid (fun w' h1 h2 => rcheck_any ⟨3, 0, s, ([] : List Int)⟩ A c w.heap.size w' (by show (([] : List Int) : List Int).length ≤ _; unfold maxLen; first | omega | (simp; done)) (by show (s : ByteArray).size ≤ _; unfold maxLen; omega) h1 h2)
    go_enter Tryz.func5, Tryz.ntmps5
    go_wp2_with fail
    obtain ⟨W, hW⟩ : ∃ W, W = (w.alloc (.cells #[.int .i64 3, .int .i64 0, .string s, .slice A 0 c] 24 (0, 0))) := ⟨_, rfl⟩
    have hbw : Below w.heap.size w W := by rw [hW]; exact ((Below.refl _ w).alloc (Nat.le_refl _) _)
    have B0 : Blk W (w.heap.size) 24 #[.int .i64 3, .int .i64 0, .string s, .slice A 0 c] := by
      rw [hW]
      have := Blk.new w 24 #[.int .i64 3, .int .i64 0, .string s, .slice A 0 c]
      exact this
    have hsz : W.heap.size = w.heap.size + 1 := by rw [hW]; simp
    rw [← hW]
    clear hW hsz
    refine (HK.out W (HX.out.below hbw) hbw.size).mono ?_
    rintro e w1 ⟨rfl, hb1⟩
    rw [HCK.out]
    have B0 := B0.below hb1 B0.lt
    have hbw := hbw.trans (hb1.mono hbw.size)
    clear hb1 HK
    have vc0 : w1.cell? ⟨w.heap.size, 0, none⟩ = some (.int .i64 3) := B0.cell 0
    have vc1 : w1.cell? ⟨w.heap.size, 1, none⟩ = some (.int .i64 0) := B0.cell 1
    have vc2 : w1.cell? ⟨w.heap.size, 2, none⟩ = some (.string s) := B0.cell 2
    have vc3 : w1.cell? ⟨w.heap.size, 3, none⟩ = some (.slice A 0 c) := B0.cell 3
    go_wp2_with fail
    refine (replaceAll_any s ⟨#[39]⟩ ⟨#[39, 39]⟩ _ (by omega) (Nat.le_refl 1) (Nat.le_refl 2) (HM.out.below hbw)).mono ?_
    rintro e w2 ⟨⟨t, rfl, ht⟩, hb⟩
    rw [HS.out] at ht
    have hbw := hbw.trans (hb.mono hbw.size)
    have HTT := Lib.hid (show t.data.toList = Lib.replaceAll S [39] [39, 39] from ht)
    have htl : t.size ≤ 2000 := by
      rw [dsize HTT.out]
      have h1 := esc_len S
      have h2 : S.length = s.size := by rw [← HS.out]; rfl
      omega
    clear ht hb
    go_wp2
    go_ret2
    exact ⟨⟨_, rfl, by rw [toList_app, toList_app, HTT.out]; rfl⟩, hbw⟩
  | code h1 h2 =>
    have HK := Lib.hid (fun w' h1 h2 => rcheck_any ⟨4, n, s, ([] : List Int)⟩ A c w.heap.size w' (by show (([] : List Int) : List Int).length ≤ _; unfold maxLen; first | omega | (simp; done)) (by show (s : ByteArray).size ≤ _; unfold maxLen; omega) h1 h2)
    go_enter Tryz.func5, Tryz.ntmps5
    go_wp2_with fail
    obtain ⟨W, hW⟩ : ∃ W, W = (w.alloc (.cells #[.int .i64 4, .int .i64 n, .string s, .slice A 0 c] 24 (0, 0))) := ⟨_, rfl⟩
    have hbw : Below w.heap.size w W := by rw [hW]; exact ((Below.refl _ w).alloc (Nat.le_refl _) _)
    have B0 : Blk W (w.heap.size) 24 #[.int .i64 4, .int .i64 n, .string s, .slice A 0 c] := by
      rw [hW]
      have := Blk.new w 24 #[.int .i64 4, .int .i64 n, .string s, .slice A 0 c]
      exact this
    have hsz : W.heap.size = w.heap.size + 1 := by rw [hW]; simp
    rw [← hW]
    clear hW hsz
    refine (HK.out W (HX.out.below hbw) hbw.size).mono ?_
    rintro e w1 ⟨rfl, hb1⟩
    rw [HCK.out]
    have B0 := B0.below hb1 B0.lt
    have hbw := hbw.trans (hb1.mono hbw.size)
    clear hb1 HK
    have vc0 : w1.cell? ⟨w.heap.size, 0, none⟩ = some (.int .i64 4) := B0.cell 0
    have vc1 : w1.cell? ⟨w.heap.size, 1, none⟩ = some (.int .i64 n) := B0.cell 1
    have vc2 : w1.cell? ⟨w.heap.size, 2, none⟩ = some (.string s) := B0.cell 2
    have vc3 : w1.cell? ⟨w.heap.size, 3, none⟩ = some (.slice A 0 c) := B0.cell 3
    go_wp2_with fail
    refine (itoa_any n _ (by omega) (by omega) (HT.out.below hbw)).mono ?_
    rintro e w2 ⟨⟨t, rfl, ht⟩, hb⟩
    have hbw := hbw.trans (hb.mono hbw.size)
    have HTT := Lib.hid ht
    have htl : t.size ≤ 20 := by rw [dsize ht]; have := itoa_code h1 h2; omega
    clear ht hb
    go_wp2
    go_ret2
    exact ⟨⟨_, rfl, by rw [toList_app, HTT.out]; rfl⟩, hbw⟩
  | set h =>
    have HC := Lib.hid h
    clear h
    have HK := Lib.hid (fun w' h1 h2 => rcheck_any ⟨5, 0, s, l⟩ A c w.heap.size w' (by show (l : List Int).length ≤ _; unfold maxLen; first | omega | (simp; done)) (by show (s : ByteArray).size ≤ _; unfold maxLen; omega) h1 h2)
    go_enter Tryz.func5, Tryz.ntmps5
    go_wp2_with fail
    obtain ⟨W, hW⟩ : ∃ W, W = (w.alloc (.cells #[.int .i64 5, .int .i64 0, .string s, .slice A l.length c] 24 (0, 0))) := ⟨_, rfl⟩
    have hbw : Below w.heap.size w W := by rw [hW]; exact ((Below.refl _ w).alloc (Nat.le_refl _) _)
    have B0 : Blk W (w.heap.size) 24 #[.int .i64 5, .int .i64 0, .string s, .slice A l.length c] := by
      rw [hW]
      have := Blk.new w 24 #[.int .i64 5, .int .i64 0, .string s, .slice A l.length c]
      exact this
    have hsz : W.heap.size = w.heap.size + 1 := by rw [hW]; simp
    rw [← hW]
    clear hW hsz
    refine (HK.out W (HX.out.below hbw) hbw.size).mono ?_
    rintro e w1 ⟨rfl, hb1⟩
    rw [HCK.out]
    have B0 := B0.below hb1 B0.lt
    have hbw := hbw.trans (hb1.mono hbw.size)
    clear hb1 HK
    have vc0 : w1.cell? ⟨w.heap.size, 0, none⟩ = some (.int .i64 5) := B0.cell 0
    have vc1 : w1.cell? ⟨w.heap.size, 1, none⟩ = some (.int .i64 0) := B0.cell 1
    have vc2 : w1.cell? ⟨w.heap.size, 2, none⟩ = some (.string s) := B0.cell 2
    have vc3 : w1.cell? ⟨w.heap.size, 3, none⟩ = some (.slice A l.length c) := B0.cell 3
    go_wp2
    go_loopw [5, 6, 7, 47] (fun v u6 u7 i wr => ∃ (k : Nat) (t : ByteArray), k ≤ l.length ∧ i = .int .i64 k ∧ v = .string t ∧ Hid (t.data.toList = setK l k) ∧ t.size ≤ 1 + 5 * k ∧ Below w.heap.size w wr) (fun _ _ _ i _ => l.length - (intOf i).toNat)
    case atStart => exact ⟨0, _, Nat.zero_le _, rfl, rfl, Lib.hid rfl, Nat.le_refl _, hbw⟩
    case round =>
      obtain ⟨k, t, hk, rfl, rfl, HTT, htl, hbr⟩ := hrel
      have hsr := hbr.size
      by_cases hlt : k < l.length
      · obtain ⟨ad, u, rfl, hb, hu, hcell⟩ := (HX.out.below hbr).at_ hlt
        obtain ⟨hkl, rfl⟩ := numV_get _ _ _ _ hu
        obtain ⟨x, hx⟩ : ∃ x, l[k] = x := ⟨_, rfl⟩
        have hxc := HC.out l[k] (List.getElem_mem hkl)
        rw [hx] at hxc hcell
        obtain ⟨hx1, hx2⟩ := hxc
        have HK := Lib.hid (setK_snoc hkl)
        rw [hx] at HK
        have HT1 := Lib.hid (HT.out.below hbr)
        clear hu hx
        by_cases h0 : k = 0
        · have HK0 := Lib.hid (show setK l 1 = setK l 0 ++ codeT x by have h := HK.out; rw [h0] at h; simpa using h)
          subst h0
          have hc0 : wr.cell? ad = some (.int .i64 x) := by have h := hcell; simp only [Addr.add, if_true] at h; exact h
          go_wp2_with fail
          refine (itoa_any x wr (by omega) (by omega) HT1.out).mono ?_
          rintro e w2 ⟨⟨t2, rfl, ht2⟩, hb2⟩
          have htl2 : t2.size ≤ 3 := by rw [dsize ht2]; exact itoa_code hx1 hx2
          have HT2 := Lib.hid ht2
          have hbr2 := hbr.trans (hb2.mono hsr)
          clear ht2 hb2 hcell HK hc0
          go_wp2
          go_roundw
          case rel => exact ⟨1, _, by omega, rfl, rfl, Lib.hid (by rw [toList_app, toList_app, HTT.out, HT2.out, HK0.out]; rfl), by rw [ByteArray.size_append, ByteArray.size_append]; show _ + (1 + _) ≤ _; omega, hbr2⟩
          case measure => simp [intOf]; omega
        · have HK0 := Lib.hid (show setK l (k + 1) = setK l k ++ [44] ++ codeT x by have h := HK.out; rwa [if_neg h0] at h)
          have hk1 : 0 < k := by omega
          clear h0
          go_wp2_with fail
          refine (itoa_any x wr (by omega) (by omega) HT1.out).mono ?_
          rintro e w2 ⟨⟨t2, rfl, ht2⟩, hb2⟩
          have htl2 : t2.size ≤ 3 := by rw [dsize ht2]; exact itoa_code hx1 hx2
          have HT2 := Lib.hid ht2
          have hbr2 := hbr.trans (hb2.mono hsr)
          clear ht2 hb2 hcell HK
          go_wp2
          go_roundw
          case rel => exact ⟨k + 1, _, by omega, by go_num, rfl, Lib.hid (by rw [toList_app, toList_app, toList_app, HTT.out, HT2.out, HK0.out]; rfl), by rw [ByteArray.size_append, ByteArray.size_append, ByteArray.size_append]; show _ + 1 + (1 + _) ≤ _; omega, hbr2⟩
          case measure => simp [intOf]; omega
      · have HF := Lib.hid (setK_all (l := l) (k := k) (by omega))
        go_wp2
        go_ret2
        exact ⟨⟨_, rfl, by rw [toList_app, HTT.out]; exact HF.out⟩, hbr⟩
  | day h1 h2 =>
    obtain ⟨y, m, d, ey, em, ed, hy, hmm, hd, hok, hn⟩ := day_parts h1 h2
    have HY := Lib.hid (And.intro ey (And.intro em ed))
    have HL := Lib.hid (And.intro (pad_len (w := 4) (n := y) (dec_len 3 y hy)) (And.intro (pad_len (w := 2) (n := m) (dec_len 1 m hmm)) (pad_len (w := 2) (n := d) (dec_len 1 d hd))))
    have HCV := Lib.hid (fun w' => RCivil_in n w' h1 h2)
    clear ey em ed hok hn
    have HK := Lib.hid (fun w' h1 h2 => rcheck_any ⟨6, n, s, ([] : List Int)⟩ A c w.heap.size w' (by show (([] : List Int) : List Int).length ≤ _; unfold maxLen; first | omega | (simp; done)) (by show (s : ByteArray).size ≤ _; unfold maxLen; omega) h1 h2)
    go_enter Tryz.func5, Tryz.ntmps5
    go_wp2_with fail
    obtain ⟨W, hW⟩ : ∃ W, W = (w.alloc (.cells #[.int .i64 6, .int .i64 n, .string s, .slice A 0 c] 24 (0, 0))) := ⟨_, rfl⟩
    have hbw : Below w.heap.size w W := by rw [hW]; exact ((Below.refl _ w).alloc (Nat.le_refl _) _)
    have B0 : Blk W (w.heap.size) 24 #[.int .i64 6, .int .i64 n, .string s, .slice A 0 c] := by
      rw [hW]
      have := Blk.new w 24 #[.int .i64 6, .int .i64 n, .string s, .slice A 0 c]
      exact this
    have hsz : W.heap.size = w.heap.size + 1 := by rw [hW]; simp
    rw [← hW]
    clear hW hsz
    refine (HK.out W (HX.out.below hbw) hbw.size).mono ?_
    rintro e w1 ⟨rfl, hb1⟩
    rw [HCK.out]
    have B0 := B0.below hb1 B0.lt
    have hbw := hbw.trans (hb1.mono hbw.size)
    clear hb1 HK
    have vc0 : w1.cell? ⟨w.heap.size, 0, none⟩ = some (.int .i64 6) := B0.cell 0
    have vc1 : w1.cell? ⟨w.heap.size, 1, none⟩ = some (.int .i64 n) := B0.cell 1
    have vc2 : w1.cell? ⟨w.heap.size, 2, none⟩ = some (.string s) := B0.cell 2
    have vc3 : w1.cell? ⟨w.heap.size, 3, none⟩ = some (.slice A 0 c) := B0.cell 3
    go_wp2_with fail
    refine (HCV.out _).mono ?_
    rw [HY.out.1, HY.out.2.1, HY.out.2.2]
    rintro e w2 ⟨rfl, rfl⟩
    go_wp2_with fail
    refine (digits_any y 4 _ (by omega) (by omega) (by omega) (HT.out.below hbw)).mono ?_
    rintro e w2 ⟨⟨t1, rfl, ht1⟩, hb1⟩
    have hbw := hbw.trans (hb1.mono hbw.size)
    have HT1 := Lib.hid ht1
    have hl1 : t1.size ≤ 4 := by rw [dsize ht1, HL.out.1]; exact Nat.le_refl _
    clear ht1 hb1 vc0 vc1 vc2 vc3
    go_wp2_with fail
    refine (digits_any m 2 w2 (by omega) (by omega) (by omega) (HT.out.below hbw)).mono ?_
    rintro e w3 ⟨⟨t2, rfl, ht2⟩, hb2⟩
    have hbw := hbw.trans (hb2.mono hbw.size)
    have HT2 := Lib.hid ht2
    have hl2 : t2.size ≤ 2 := by rw [dsize ht2, HL.out.2.1]; exact Nat.le_refl _
    clear ht2 hb2
    go_wp2_with fail
    refine (digits_any d 2 w3 (by omega) (by omega) (by omega) (HT.out.below hbw)).mono ?_
    rintro e w4 ⟨⟨t3, rfl, ht3⟩, hb3⟩
    have hbw := hbw.trans (hb3.mono hbw.size)
    have HT3 := Lib.hid ht3
    have hl3 : t3.size ≤ 2 := by rw [dsize ht3, HL.out.2.2]; exact Nat.le_refl _
    clear ht3 hb3
    go_wp2
    go_ret2
    exact ⟨⟨_, rfl, by
      rw [toList_app, toList_app, toList_app, toList_app, toList_app, HT1.out, HT2.out, HT3.out]
      show _ = dayT n
      unfold dayT
      rw [HY.out.1, HY.out.2.1, HY.out.2.2]
      rfl⟩, hbw⟩
  | bool h1 h2 =>
    obtain rfl | rfl : n = 0 ∨ n = 1 := by omega
    ·
      have HK := Lib.hid (fun w' h1 h2 => rcheck_any ⟨7, 0, s, ([] : List Int)⟩ A c w.heap.size w' (by show (([] : List Int) : List Int).length ≤ _; unfold maxLen; first | omega | (simp; done)) (by show (s : ByteArray).size ≤ _; unfold maxLen; omega) h1 h2)
      go_enter Tryz.func5, Tryz.ntmps5
      go_wp2_with fail
      obtain ⟨W, hW⟩ : ∃ W, W = (w.alloc (.cells #[.int .i64 7, .int .i64 0, .string s, .slice A 0 c] 24 (0, 0))) := ⟨_, rfl⟩
      have hbw : Below w.heap.size w W := by rw [hW]; exact ((Below.refl _ w).alloc (Nat.le_refl _) _)
      have B0 : Blk W (w.heap.size) 24 #[.int .i64 7, .int .i64 0, .string s, .slice A 0 c] := by
        rw [hW]
        have := Blk.new w 24 #[.int .i64 7, .int .i64 0, .string s, .slice A 0 c]
        exact this
      have hsz : W.heap.size = w.heap.size + 1 := by rw [hW]; simp
      rw [← hW]
      clear hW hsz
      refine (HK.out W (HX.out.below hbw) hbw.size).mono ?_
      rintro e w1 ⟨rfl, hb1⟩
      rw [HCK.out]
      have B0 := B0.below hb1 B0.lt
      have hbw := hbw.trans (hb1.mono hbw.size)
      clear hb1 HK
      have vc0 : w1.cell? ⟨w.heap.size, 0, none⟩ = some (.int .i64 7) := B0.cell 0
      have vc1 : w1.cell? ⟨w.heap.size, 1, none⟩ = some (.int .i64 0) := B0.cell 1
      have vc2 : w1.cell? ⟨w.heap.size, 2, none⟩ = some (.string s) := B0.cell 2
      have vc3 : w1.cell? ⟨w.heap.size, 3, none⟩ = some (.slice A 0 c) := B0.cell 3
      go_wp2_with fail
      refine (Tryz.strconv_FormatBool false _).mono ?_
      rintro e w2 ⟨rfl, rfl⟩
      go_wp2
      go_ret2
      exact ⟨⟨_, rfl, rfl⟩, hbw⟩
    ·
      have HK := Lib.hid (fun w' h1 h2 => rcheck_any ⟨7, 1, s, ([] : List Int)⟩ A c w.heap.size w' (by show (([] : List Int) : List Int).length ≤ _; unfold maxLen; first | omega | (simp; done)) (by show (s : ByteArray).size ≤ _; unfold maxLen; omega) h1 h2)
      go_enter Tryz.func5, Tryz.ntmps5
      go_wp2_with fail
      obtain ⟨W, hW⟩ : ∃ W, W = (w.alloc (.cells #[.int .i64 7, .int .i64 1, .string s, .slice A 0 c] 24 (0, 0))) := ⟨_, rfl⟩
      have hbw : Below w.heap.size w W := by rw [hW]; exact ((Below.refl _ w).alloc (Nat.le_refl _) _)
      have B0 : Blk W (w.heap.size) 24 #[.int .i64 7, .int .i64 1, .string s, .slice A 0 c] := by
        rw [hW]
        have := Blk.new w 24 #[.int .i64 7, .int .i64 1, .string s, .slice A 0 c]
        exact this
      have hsz : W.heap.size = w.heap.size + 1 := by rw [hW]; simp
      rw [← hW]
      clear hW hsz
      refine (HK.out W (HX.out.below hbw) hbw.size).mono ?_
      rintro e w1 ⟨rfl, hb1⟩
      rw [HCK.out]
      have B0 := B0.below hb1 B0.lt
      have hbw := hbw.trans (hb1.mono hbw.size)
      clear hb1 HK
      have vc0 : w1.cell? ⟨w.heap.size, 0, none⟩ = some (.int .i64 7) := B0.cell 0
      have vc1 : w1.cell? ⟨w.heap.size, 1, none⟩ = some (.int .i64 1) := B0.cell 1
      have vc2 : w1.cell? ⟨w.heap.size, 2, none⟩ = some (.string s) := B0.cell 2
      have vc3 : w1.cell? ⟨w.heap.size, 3, none⟩ = some (.slice A 0 c) := B0.cell 3
      go_wp2_with fail
      refine (Tryz.strconv_FormatBool true _).mono ?_
      rintro e w2 ⟨rfl, rfl⟩
      go_wp2
      go_ret2
      exact ⟨⟨_, rfl, rfl⟩, hbw⟩
end Go.Proofs.YthnknmkekbledaaGreatDoor
