/- The walk of the reference's candidate: a value that could have a text. -/
import Derived.Test.YthnknmkekbledaaGreatDoorVr3
import Derived.Test.YthnknmkekbledaaGreatDoorVw10
import Derived.Shelf.Strings.SlTrimAscii
import Derived.Deep.Cut
namespace Go.Proofs.YthnknmkekbledaaGreatDoor
open Go.RowKit Dig Vtx

/-- what candidate hands back -/
structure CV (e : Ending) (w : World) (B : Nat) (s : List UInt8) : Prop where
  ex : ∃ (x : Val) (A : Option Addr) (c : Nat), e = .returned (.agg #[.int .i64 x.k, .int .i64 x.n, .string x.s, .slice A x.l.length c]) ∧ Reads w w.heap.size 1 A x.l.length (numV .i64 x.l) ∧ (∀ ad, A = some ad → B ≤ ad.block) ∧ x.l.length ≤ 4000000 ∧ x.s.size ≤ 4000000 ∧
    candF s = ⟨x.k, x.n, x.s.data.toList, x.l⟩
theorem CV.plain {w : World} {B : Nat} {s : List UInt8} (k n : Int) (t : ByteArray) (ht : t.size ≤ 4000000) (h1 : candF s = ⟨k, n, t.data.toList, []⟩) :
    CV (.returned (.agg #[.int .i64 k, .int .i64 n, .string t, .slice none 0 0])) w B s :=
  ⟨⟨⟨k, n, t, []⟩, none, 0, rfl, Reads.none_, (fun _ h => by cases h), by simp, ht, h1⟩⟩
/-- a text that is no word -/
structure NW (s : List UInt8) : Prop where
  a : s ≠ w1T
  b : s ≠ w2T
  c : s ≠ w3T
theorem cand_word {s : List UInt8} {k : Nat} (h1 : 1 ≤ k) (h2 : k ≤ 3) (h : s = wordT k) : candF s = ⟨1, k, [], []⟩ := by
  subst h
  obtain rfl | rfl | rfl : k = 1 ∨ k = 2 ∨ k = 3 := by omega
  all_goals decide +kernel
theorem nw_of {s : List UInt8} {k : Nat} (hk : 4 ≤ k) (h : ∀ j : Nat, 1 ≤ j → j < k → s ≠ wordT j) : NW s :=
  ⟨h 1 (by omega) (by omega), h 2 (by omega) (by omega), h 3 (by omega) (by omega)⟩
theorem cand_dash {s : List UInt8} (h : NW s) (h1 : s = [45]) : candF s = ⟨0, 0, [], []⟩ := by
  unfold candF; rw [if_neg h.a, if_neg h.b, if_neg h.c, if_pos h1]
theorem cand_true {s : List UInt8} (h1 : s = trueT) : candF s = ⟨7, 1, [], []⟩ := by subst h1; decide +kernel
theorem cand_false {s : List UInt8} (h1 : s = falseT) : candF s = ⟨7, 0, [], []⟩ := by subst h1; decide +kernel
/-- a text that is none of the fixed ones -/
structure Od (s : List UInt8) : Prop where
  w : NW s
  b : s ≠ [45]
  c : s ≠ trueT
  d : s ≠ falseT
theorem cand_odd {s : List UInt8} (h : Od s) : candF s =
  if 1 < s.length ∧ s.head? = some 39 then ⟨3, 0, Lib.replaceAll ((s.take (s.length - 1)).drop 1) [39, 39] [39], []⟩ else
  if s.head? = some 35 then ⟨4, atoiN s.tail, [], []⟩ else
  if s.head? = some 123 then ⟨5, 0, [], codesC (Lib.split (Lib.trimS s [123, 125]) [44])⟩ else
  if s.length = 11 ∧ s.head? = some 64 then
    ⟨dateK (atoiN ((s.take 5).drop 1)) (atoiN ((s.take 8).drop 6)) (atoiN (s.drop 9)), dateN (atoiN ((s.take 5).drop 1)) (atoiN ((s.take 8).drop 6)) (atoiN (s.drop 9)), [], []⟩ else
  ⟨2, readDecF s, [], []⟩ := by
  rw [candF, if_neg h.w.a, if_neg h.w.b, if_neg h.w.c, if_neg h.b, if_neg h.c, if_neg h.d]
theorem hasPre_head (l : List UInt8) (c : UInt8) : Lib.hasPrefix l [c] = decide (l.head? = some c) := by
  cases l with
  | nil => simp [Lib.hasPrefix]
  | cons b r =>
    simp only [Lib.hasPrefix, List.isPrefixOf, List.head?_cons, Option.some.injEq]
    by_cases h : b = c
    · subst h; simp
    · simp [h, Ne.symm h]
theorem reasonT (n : Nat) (w : World) (h1 : 1 ≤ n) (h2 : n ≤ 3) :
    Calls Tryz.prog 12 #[.int .i64 (n : Nat)] w fun e w' => (∃ t : ByteArray, e = .returned (.string t) ∧ t.data.toList = wordT n) ∧ w = w' :=
  (reason_any n w (by omega) (by omega)).mono fun _ _ ⟨he, hw⟩ => ⟨⟨_, he, rfl⟩, hw⟩
theorem trim_any (s : ByteArray) (w : World) (hs : s.size ≤ 2000000) :
    Calls Tryz.prog 46 #[.string s, .string ⟨#[123, 125]⟩] w fun e w' => (∃ t : ByteArray, e = .returned (.string t) ∧ t.data.toList = Lib.trimS s.data.toList [123, 125]) ∧ Below w.heap.size w w' :=
  (Any.strings_Trim_laid Tryz.lays160 (by kernel_rfl) s ⟨#[123, 125]⟩ w (by omega) (by decide) (ascii_of_all (by decide))).mono fun _ _ ⟨he, hb⟩ => ⟨⟨_, he, rfl⟩, hb⟩
theorem codesC_snoc (ps : List (List UInt8)) (p : List UInt8) : codesC (ps ++ [p]) = codesC ps ++ (if p = [] then [] else [atoiN (Lib.trimPrefix p [35])]) := by
  unfold codesC
  rw [List.filter_append]
  by_cases h : p = []
  · simp [h]
  · simp [h]
theorem ext_td (s : ByteArray) (i j : Nat) : (s.extract i j).data.toList = (s.data.toList.take j).drop i := by rw [Lib.extract_data, List.drop_take]
theorem splitK_le (sep : List UInt8) (save : Nat) : ∀ (k : Nat) (l : List UInt8), ∀ p ∈ Lib.splitK sep save k l, p.length ≤ l.length
  | 0, l => fun p hp => by
    rw [Lib.splitK, List.mem_singleton] at hp
    rw [hp]
    exact Nat.le_refl _
  | k + 1, l => fun p hp => by
    rw [Lib.splitK] at hp
    split at hp
    · rw [List.mem_singleton] at hp
      rw [hp]
      exact Nat.le_refl _
    · rcases List.mem_cons.1 hp with h | h
      · rw [h, List.length_take]; exact Nat.min_le_right _ _
      · have := splitK_le sep save k _ p h
        rw [List.length_drop] at this
        omega
theorem split_le (l sep : List UInt8) : ∀ p ∈ Lib.split l sep, p.length ≤ l.length := splitK_le sep 0 _ l
theorem trimS_le (l cs : List UInt8) : (Lib.trimS l cs).length ≤ l.length := by
  unfold Lib.trimS Lib.trimLeftS Lib.trimRightS
  have h1 := (List.dropWhile_suffix (cs.contains ·) (l := l.reverse)).length_le
  have h2 := (List.dropWhile_suffix (cs.contains ·) (l := (List.dropWhile (cs.contains ·) l.reverse).reverse)).length_le
  simp only [List.length_reverse] at h1 h2
  omega
set_option maxHeartbeats 8000000 in
set_option maxRecDepth 100000 in
theorem cand_any (s : ByteArray) (w : World) (hs : s.size ≤ 2000000) (hm : Mx w) (he : Er w) :
    Calls Tryz.prog 20 #[.string s] w fun e w' => CV e w' w.heap.size s.data.toList ∧ Below w.heap.size w w' := by
  have HM := Lib.hid hm
  have HE := Lib.hid he
  clear hm he
  obtain ⟨i0, hi0, hz0, hz1, hz2⟩ := info_parts infoInt
  go_enter Tryz.func20, Tryz.ntmps20
  go_wp2_with fail
  obtain ⟨W, hW⟩ : ∃ W, W = (w.alloc (.cells #[.int .i64 0, .int .i64 0, .string ⟨#[]⟩, .slice none 0 0] 24 (0, 0))) := ⟨_, rfl⟩
  have hbw : Below w.heap.size w W := by rw [hW]; exact ((Below.refl _ w).alloc (Nat.le_refl _) _)
  have B0 : Blk W (w.heap.size) 24 #[.int .i64 0, .int .i64 0, .string ⟨#[]⟩, .slice none 0 0] := by
    rw [hW]
    have := Blk.new w 24 #[.int .i64 0, .int .i64 0, .string ⟨#[]⟩, .slice none 0 0]
    exact this
  have hsz : W.heap.size = w.heap.size + 1 := by rw [hW]; simp
  rw [← hW]
  clear hW hsz
  have rc0 : W.cell? ⟨w.heap.size, 0, none⟩ = some (.int .i64 0) := B0.cell 0
  have rz0 : W.frozen? ⟨w.heap.size, 0, none⟩ = false := B0.frozen 0
  have rc1 : W.cell? ⟨w.heap.size, 1, none⟩ = some (.int .i64 0) := B0.cell 1
  have rz1 : W.frozen? ⟨w.heap.size, 1, none⟩ = false := B0.frozen 1
  have rc2 : W.cell? ⟨w.heap.size, 2, none⟩ = some (.string ⟨#[]⟩) := B0.cell 2
  have rz2 : W.frozen? ⟨w.heap.size, 2, none⟩ = false := B0.frozen 2
  have rc3 : W.cell? ⟨w.heap.size, 3, none⟩ = some (.slice none 0 0) := B0.cell 3
  have rz3 : W.frozen? ⟨w.heap.size, 3, none⟩ = false := B0.frozen 3
  go_loop [3] (fun i => ∃ k : Nat, 1 ≤ k ∧ k ≤ 4 ∧ i = .int .i64 k ∧ Hid (∀ j : Nat, 1 ≤ j → j < k → s.data.toList ≠ wordT j)) (fun i => 5 - (intOf i).toNat)
  case atStart => exact ⟨1, by omega, by omega, rfl, Lib.hid (fun j h1 h2 => by omega)⟩
  case round =>
    obtain ⟨k, hk1, hk4, rfl, HJ⟩ := hrel
    by_cases hk3 : k ≤ 3
    · go_wp2_with fail
      refine (reasonT k W hk1 hk3).mono ?_
      rintro e w1 ⟨⟨t, rfl, ht⟩, rfl⟩
      have HTT := Lib.hid ht
      clear ht
      by_cases hst : s = t
      · have b0 : (s.toList == t.toList) = true := strEq_true hst
        have HC := Lib.hid (cand_word (s := s.data.toList) hk1 hk3 (by rw [hst]; exact HTT.out))
        clear hst
        go_wp2
        obtain ⟨W9, hW9⟩ : ∃ W9, W9 = (((W.setCell ⟨w.heap.size, 0, none⟩ (.int .i64 1)).setCell ⟨w.heap.size, 1, none⟩ (.int .i64 (k : Nat))).setCell ⟨w.heap.size, 2, none⟩ (.string ⟨#[]⟩)).setCell ⟨w.heap.size, 3, none⟩ (.slice none 0 0) := ⟨_, rfl⟩
        have B9 : Blk W9 (w.heap.size) 24 #[.int .i64 1, .int .i64 (k : Nat), .string ⟨#[]⟩, .slice none 0 0] := hW9 ▸ ((((B0.set_ 0 _).set_ 1 _).set_ 2 _).set_ 3 _)
        have hbw9 : Below w.heap.size w W9 := hW9 ▸ ((((hbw.setCell (p := ⟨w.heap.size, 0, none⟩) (Nat.le_refl _) _).setCell (p := ⟨w.heap.size, 1, none⟩) (Nat.le_refl _) _).setCell (p := ⟨w.heap.size, 2, none⟩) (Nat.le_refl _) _).setCell (p := ⟨w.heap.size, 3, none⟩) (Nat.le_refl _) _)
        rw [← hW9]
        clear hW9
        have qc0 : W9.cell? ⟨w.heap.size, 0, none⟩ = some (.int .i64 1) := B9.cell 0
        have qc1 : W9.cell? ⟨w.heap.size, 1, none⟩ = some (.int .i64 (k : Nat)) := B9.cell 1
        have qc2 : W9.cell? ⟨w.heap.size, 2, none⟩ = some (.string ⟨#[]⟩) := B9.cell 2
        have qc3 : W9.cell? ⟨w.heap.size, 3, none⟩ = some (.slice none 0 0) := B9.cell 3
        refine bodyPost_ret (v := .agg #[.int .i64 1, .int .i64 (k : Nat), .string ⟨#[]⟩, .slice none 0 0]) (by simp [results, Tryz.results20, go_sem, qc0, qc1, qc2, qc3]) rfl ⟨CV.plain 1 ((k : Nat)) ⟨#[]⟩ (by decide) HC.out, hbw9⟩
      · have b0 : (s.toList == t.toList) = false := strEq_false hst
        have HJ2 := Lib.hid (show ∀ j : Nat, 1 ≤ j → j < k + 1 → s.data.toList ≠ wordT j from fun j h1 h2 e => by
          rcases Nat.lt_or_ge j k with h | h
          · exact HJ.out j h1 h e
          · obtain rfl : j = k := by omega
            exact hst ((ba_of (e.trans HTT.out.symm)).trans (ba_of (t := t) rfl).symm))
        clear hst
        go_wp2
        go_round
        case rel => exact ⟨k + 1, by omega, by omega, by go_num, HJ2⟩
        case measure => simp [intOf]; omega
    have HNW := Lib.hid (nw_of (by omega) HJ.out)
    obtain rfl : k = 4 := by omega
    clear HJ hk1 hk4 hk3
    by_cases h1 : s.data.toList = [45]
    · have e2 : (s.toList == [45]) = true := by rw [ByteArray.toList_eq, beq_iff_eq]; exact h1
      have HC := Lib.hid (cand_dash HNW.out h1)
      clear h1
      go_wp2
      obtain ⟨W9, hW9⟩ : ∃ W9, W9 = (((W.setCell ⟨w.heap.size, 0, none⟩ (.int .i64 0)).setCell ⟨w.heap.size, 1, none⟩ (.int .i64 0)).setCell ⟨w.heap.size, 2, none⟩ (.string ⟨#[]⟩)).setCell ⟨w.heap.size, 3, none⟩ (.slice none 0 0) := ⟨_, rfl⟩
      have B9 : Blk W9 (w.heap.size) 24 #[.int .i64 0, .int .i64 0, .string ⟨#[]⟩, .slice none 0 0] := hW9 ▸ ((((B0.set_ 0 _).set_ 1 _).set_ 2 _).set_ 3 _)
      have hbw9 : Below w.heap.size w W9 := hW9 ▸ ((((hbw.setCell (p := ⟨w.heap.size, 0, none⟩) (Nat.le_refl _) _).setCell (p := ⟨w.heap.size, 1, none⟩) (Nat.le_refl _) _).setCell (p := ⟨w.heap.size, 2, none⟩) (Nat.le_refl _) _).setCell (p := ⟨w.heap.size, 3, none⟩) (Nat.le_refl _) _)
      rw [← hW9]
      clear hW9
      have qc0 : W9.cell? ⟨w.heap.size, 0, none⟩ = some (.int .i64 0) := B9.cell 0
      have qc1 : W9.cell? ⟨w.heap.size, 1, none⟩ = some (.int .i64 0) := B9.cell 1
      have qc2 : W9.cell? ⟨w.heap.size, 2, none⟩ = some (.string ⟨#[]⟩) := B9.cell 2
      have qc3 : W9.cell? ⟨w.heap.size, 3, none⟩ = some (.slice none 0 0) := B9.cell 3
      refine bodyPost_ret (v := .agg #[.int .i64 0, .int .i64 0, .string ⟨#[]⟩, .slice none 0 0]) (by simp [results, Tryz.results20, go_sem, qc0, qc1, qc2, qc3]) rfl ⟨CV.plain 0 (0) ⟨#[]⟩ (by decide) HC.out, hbw9⟩
    have e2 : (s.toList == [45]) = false := by rw [ByteArray.toList_eq, beq_eq_false_iff_ne]; exact h1
    by_cases h2 : s.data.toList = trueT
    · have e3 : (s.toList == [116, 114, 117, 101]) = true := by rw [ByteArray.toList_eq, beq_iff_eq]; exact h2
      have HC := Lib.hid (cand_true h2)
      clear h1 h2
      go_wp2
      obtain ⟨W9, hW9⟩ : ∃ W9, W9 = (((W.setCell ⟨w.heap.size, 0, none⟩ (.int .i64 7)).setCell ⟨w.heap.size, 1, none⟩ (.int .i64 1)).setCell ⟨w.heap.size, 2, none⟩ (.string ⟨#[]⟩)).setCell ⟨w.heap.size, 3, none⟩ (.slice none 0 0) := ⟨_, rfl⟩
      have B9 : Blk W9 (w.heap.size) 24 #[.int .i64 7, .int .i64 1, .string ⟨#[]⟩, .slice none 0 0] := hW9 ▸ ((((B0.set_ 0 _).set_ 1 _).set_ 2 _).set_ 3 _)
      have hbw9 : Below w.heap.size w W9 := hW9 ▸ ((((hbw.setCell (p := ⟨w.heap.size, 0, none⟩) (Nat.le_refl _) _).setCell (p := ⟨w.heap.size, 1, none⟩) (Nat.le_refl _) _).setCell (p := ⟨w.heap.size, 2, none⟩) (Nat.le_refl _) _).setCell (p := ⟨w.heap.size, 3, none⟩) (Nat.le_refl _) _)
      rw [← hW9]
      clear hW9
      have qc0 : W9.cell? ⟨w.heap.size, 0, none⟩ = some (.int .i64 7) := B9.cell 0
      have qc1 : W9.cell? ⟨w.heap.size, 1, none⟩ = some (.int .i64 1) := B9.cell 1
      have qc2 : W9.cell? ⟨w.heap.size, 2, none⟩ = some (.string ⟨#[]⟩) := B9.cell 2
      have qc3 : W9.cell? ⟨w.heap.size, 3, none⟩ = some (.slice none 0 0) := B9.cell 3
      refine bodyPost_ret (v := .agg #[.int .i64 7, .int .i64 1, .string ⟨#[]⟩, .slice none 0 0]) (by simp [results, Tryz.results20, go_sem, qc0, qc1, qc2, qc3]) rfl ⟨CV.plain 7 (1) ⟨#[]⟩ (by decide) HC.out, hbw9⟩
    have e3 : (s.toList == [116, 114, 117, 101]) = false := by rw [ByteArray.toList_eq, beq_eq_false_iff_ne]; exact h2
    by_cases h3 : s.data.toList = falseT
    · have e4 : (s.toList == [102, 97, 108, 115, 101]) = true := by rw [ByteArray.toList_eq, beq_iff_eq]; exact h3
      have HC := Lib.hid (cand_false h3)
      clear h1 h2 h3
      go_wp2
      obtain ⟨W9, hW9⟩ : ∃ W9, W9 = (((W.setCell ⟨w.heap.size, 0, none⟩ (.int .i64 7)).setCell ⟨w.heap.size, 1, none⟩ (.int .i64 0)).setCell ⟨w.heap.size, 2, none⟩ (.string ⟨#[]⟩)).setCell ⟨w.heap.size, 3, none⟩ (.slice none 0 0) := ⟨_, rfl⟩
      have B9 : Blk W9 (w.heap.size) 24 #[.int .i64 7, .int .i64 0, .string ⟨#[]⟩, .slice none 0 0] := hW9 ▸ ((((B0.set_ 0 _).set_ 1 _).set_ 2 _).set_ 3 _)
      have hbw9 : Below w.heap.size w W9 := hW9 ▸ ((((hbw.setCell (p := ⟨w.heap.size, 0, none⟩) (Nat.le_refl _) _).setCell (p := ⟨w.heap.size, 1, none⟩) (Nat.le_refl _) _).setCell (p := ⟨w.heap.size, 2, none⟩) (Nat.le_refl _) _).setCell (p := ⟨w.heap.size, 3, none⟩) (Nat.le_refl _) _)
      rw [← hW9]
      clear hW9
      have qc0 : W9.cell? ⟨w.heap.size, 0, none⟩ = some (.int .i64 7) := B9.cell 0
      have qc1 : W9.cell? ⟨w.heap.size, 1, none⟩ = some (.int .i64 0) := B9.cell 1
      have qc2 : W9.cell? ⟨w.heap.size, 2, none⟩ = some (.string ⟨#[]⟩) := B9.cell 2
      have qc3 : W9.cell? ⟨w.heap.size, 3, none⟩ = some (.slice none 0 0) := B9.cell 3
      refine bodyPost_ret (v := .agg #[.int .i64 7, .int .i64 0, .string ⟨#[]⟩, .slice none 0 0]) (by simp [results, Tryz.results20, go_sem, qc0, qc1, qc2, qc3]) rfl ⟨CV.plain 7 (0) ⟨#[]⟩ (by decide) HC.out, hbw9⟩
    have e4 : (s.toList == [102, 97, 108, 115, 101]) = false := by rw [ByteArray.toList_eq, beq_eq_false_iff_ne]; exact h3
    have HOD := Lib.hid (cand_odd ⟨HNW.out, h1, h2, h3⟩)
    have HH := Lib.hid (fun h : 0 < s.size => head_of h)
    clear h1 h2 h3 HNW
    have hsl : s.data.toList.length = s.size := rfl
    have HSL := Lib.hid hsl
    clear hsl
    have hxl : (s.extract 1 s.size).size ≤ 2000000 := by rw [ByteArray.size_extract]; omega
    have HX := Lib.hid (show (s.extract 1 s.size).data.toList = s.data.toList.tail by
      rw [Lib.extract_data, List.take_of_length_le (by simp), List.drop_one])
    by_cases hA : 1 < s.size ∧ s.data.toList.head? = some 39
    · obtain ⟨hA1, hA2⟩ := hA
      have hp : 0 < s.size := by omega
      have b39 : (((s[0].toNat : Nat) : Int) == 39) = true := by
        have h := HH.out hp
        rw [hA2] at h
        injection h with h
        rw [← h]; decide
      have HC := Lib.hid (show candF s.data.toList = ⟨3, 0, Lib.replaceAll ((s.data.toList.take (s.size - 1)).drop 1) [39, 39] [39], []⟩ by
        rw [HOD.out, if_pos ⟨by rw [HSL.out]; exact hA1, hA2⟩, HSL.out])
      clear hA2 HOD
      go_wp2_with fail
      refine (replaceAll_any (s.extract 1 (s.size - 1)) ⟨#[39, 39]⟩ ⟨#[39]⟩ W (by rw [ByteArray.size_extract]; omega) (by decide) (by decide) (HM.out.below hbw)).mono ?_
      rintro e w1 ⟨⟨t, rfl, ht⟩, hb1⟩
      have hl2 : t.size ≤ 4000000 := by
        rw [dsize ht]
        have := unq_len (s.extract 1 (s.size - 1)).data.toList
        have h2 : (s.extract 1 (s.size - 1)).data.toList.length = (s.extract 1 (s.size - 1)).size := rfl
        have h3 : (s.extract 1 (s.size - 1)).size ≤ 2000000 := by rw [ByteArray.size_extract]; omega
        show (Lib.replaceAll (s.extract 1 (s.size - 1)).data.toList [39, 39] [39]).length ≤ _
        omega
      have HC2 := Lib.hid (show candF s.data.toList = ⟨3, 0, t.data.toList, []⟩ by rw [HC.out, ht, ext_td])
      have B0 := B0.below hb1 B0.lt
      have hbw := hbw.trans (hb1.mono hbw.size)
      clear ht hb1 HC rc0 rz0 rc1 rz1 rc2 rz2 rc3 rz3
      have rc0 : w1.cell? ⟨w.heap.size, 0, none⟩ = some (.int .i64 0) := B0.cell 0
      have rz0 : w1.frozen? ⟨w.heap.size, 0, none⟩ = false := B0.frozen 0
      have rc1 : w1.cell? ⟨w.heap.size, 1, none⟩ = some (.int .i64 0) := B0.cell 1
      have rz1 : w1.frozen? ⟨w.heap.size, 1, none⟩ = false := B0.frozen 1
      have rc2 : w1.cell? ⟨w.heap.size, 2, none⟩ = some (.string ⟨#[]⟩) := B0.cell 2
      have rz2 : w1.frozen? ⟨w.heap.size, 2, none⟩ = false := B0.frozen 2
      have rc3 : w1.cell? ⟨w.heap.size, 3, none⟩ = some (.slice none 0 0) := B0.cell 3
      have rz3 : w1.frozen? ⟨w.heap.size, 3, none⟩ = false := B0.frozen 3
      go_wp2
      obtain ⟨W9, hW9⟩ : ∃ W9, W9 = (((w1.setCell ⟨w.heap.size, 0, none⟩ (.int .i64 3)).setCell ⟨w.heap.size, 1, none⟩ (.int .i64 0)).setCell ⟨w.heap.size, 2, none⟩ (.string t)).setCell ⟨w.heap.size, 3, none⟩ (.slice none 0 0) := ⟨_, rfl⟩
      have B9 : Blk W9 (w.heap.size) 24 #[.int .i64 3, .int .i64 0, .string t, .slice none 0 0] := hW9 ▸ ((((B0.set_ 0 _).set_ 1 _).set_ 2 _).set_ 3 _)
      have hbw9 : Below w.heap.size w W9 := hW9 ▸ ((((hbw.setCell (p := ⟨w.heap.size, 0, none⟩) (Nat.le_refl _) _).setCell (p := ⟨w.heap.size, 1, none⟩) (Nat.le_refl _) _).setCell (p := ⟨w.heap.size, 2, none⟩) (Nat.le_refl _) _).setCell (p := ⟨w.heap.size, 3, none⟩) (Nat.le_refl _) _)
      rw [← hW9]
      clear hW9
      have qc0 : W9.cell? ⟨w.heap.size, 0, none⟩ = some (.int .i64 3) := B9.cell 0
      have qc1 : W9.cell? ⟨w.heap.size, 1, none⟩ = some (.int .i64 0) := B9.cell 1
      have qc2 : W9.cell? ⟨w.heap.size, 2, none⟩ = some (.string t) := B9.cell 2
      have qc3 : W9.cell? ⟨w.heap.size, 3, none⟩ = some (.slice none 0 0) := B9.cell 3
      refine bodyPost_ret (v := .agg #[.int .i64 3, .int .i64 0, .string t, .slice none 0 0]) (by simp [results, Tryz.results20, go_sem, qc0, qc1, qc2, qc3]) rfl ⟨CV.plain 3 (0) t hl2 HC2.out, hbw9⟩
    have HOD2 := Lib.hid (show candF s.data.toList = _ by rw [HOD.out, if_neg (by rw [HSL.out]; exact hA)])
    clear HOD
    go_upto_region 12 with (fail)
    go_cut [39] (fun v wx => v = .bool false ∧ W = wx)
    case first =>
      by_cases hA1 : 1 < s.size
      · have hp : 0 < s.size := by omega
        have b39 : (((s[0].toNat : Nat) : Int) == 39) = false := by
          rw [beq_eq_false_iff_ne]
          intro h
          exact hA ⟨hA1, head_eq (c := 39) hp h⟩
        clear hA
        go_wp2_with (fail)
        go_meet
        exact ⟨rfl, rfl⟩
      · clear hA
        go_wp2_with (fail)
        go_meet
        exact ⟨rfl, rfl⟩
    case rest =>
    obtain ⟨rfl, rfl⟩ := hcut
    clear hA
    go_wp2_with fail
    refine (hasPre1 s 35 W).mono ?_
    rw [hasPre_head]
    by_cases h35 : s.data.toList.head? = some 35
    · rw [decide_eq_true h35]
      rintro e w1 ⟨rfl, rfl⟩
      have hp : 1 ≤ s.size := by
        rcases Nat.eq_zero_or_pos s.size with h | h
        · rw [List.eq_nil_of_length_eq_zero (HSL.out.trans h)] at h35; cases h35
        · exact h
      have HC := Lib.hid (show candF s.data.toList = ⟨4, atoiN s.data.toList.tail, [], []⟩ by rw [HOD2.out, if_pos h35])
      clear h35 HOD2
      go_wp2_with fail
      refine (atoi_any (s.extract 1 s.size) W hxl (HE.out.below hbw)).mono ?_
      obtain ⟨n, hn⟩ : ∃ n, atoiN s.data.toList.tail = n := ⟨_, rfl⟩
      have HN := Lib.hid hn
      rw [HX.out, hn]
      clear hn
      rintro e w1 ⟨⟨er, rfl⟩, hb1⟩
      have B0 := B0.below hb1 B0.lt
      have hbw := hbw.trans (hb1.mono hbw.size)
      clear hb1 rc0 rz0 rc1 rz1 rc2 rz2 rc3 rz3
      have rc0 : w1.cell? ⟨w.heap.size, 0, none⟩ = some (.int .i64 0) := B0.cell 0
      have rz0 : w1.frozen? ⟨w.heap.size, 0, none⟩ = false := B0.frozen 0
      have rc1 : w1.cell? ⟨w.heap.size, 1, none⟩ = some (.int .i64 0) := B0.cell 1
      have rz1 : w1.frozen? ⟨w.heap.size, 1, none⟩ = false := B0.frozen 1
      have rc2 : w1.cell? ⟨w.heap.size, 2, none⟩ = some (.string ⟨#[]⟩) := B0.cell 2
      have rz2 : w1.frozen? ⟨w.heap.size, 2, none⟩ = false := B0.frozen 2
      have rc3 : w1.cell? ⟨w.heap.size, 3, none⟩ = some (.slice none 0 0) := B0.cell 3
      have rz3 : w1.frozen? ⟨w.heap.size, 3, none⟩ = false := B0.frozen 3
      go_wp2
      obtain ⟨W9, hW9⟩ : ∃ W9, W9 = (((w1.setCell ⟨w.heap.size, 0, none⟩ (.int .i64 4)).setCell ⟨w.heap.size, 1, none⟩ (.int .i64 n)).setCell ⟨w.heap.size, 2, none⟩ (.string ⟨#[]⟩)).setCell ⟨w.heap.size, 3, none⟩ (.slice none 0 0) := ⟨_, rfl⟩
      have B9 : Blk W9 (w.heap.size) 24 #[.int .i64 4, .int .i64 n, .string ⟨#[]⟩, .slice none 0 0] := hW9 ▸ ((((B0.set_ 0 _).set_ 1 _).set_ 2 _).set_ 3 _)
      have hbw9 : Below w.heap.size w W9 := hW9 ▸ ((((hbw.setCell (p := ⟨w.heap.size, 0, none⟩) (Nat.le_refl _) _).setCell (p := ⟨w.heap.size, 1, none⟩) (Nat.le_refl _) _).setCell (p := ⟨w.heap.size, 2, none⟩) (Nat.le_refl _) _).setCell (p := ⟨w.heap.size, 3, none⟩) (Nat.le_refl _) _)
      rw [← hW9]
      clear hW9
      have qc0 : W9.cell? ⟨w.heap.size, 0, none⟩ = some (.int .i64 4) := B9.cell 0
      have qc1 : W9.cell? ⟨w.heap.size, 1, none⟩ = some (.int .i64 n) := B9.cell 1
      have qc2 : W9.cell? ⟨w.heap.size, 2, none⟩ = some (.string ⟨#[]⟩) := B9.cell 2
      have qc3 : W9.cell? ⟨w.heap.size, 3, none⟩ = some (.slice none 0 0) := B9.cell 3
      refine bodyPost_ret (v := .agg #[.int .i64 4, .int .i64 n, .string ⟨#[]⟩, .slice none 0 0]) (by simp [results, Tryz.results20, go_sem, qc0, qc1, qc2, qc3]) rfl ⟨CV.plain 4 (n) ⟨#[]⟩ (by decide) (by rw [HC.out, HN.out]), hbw9⟩
    have HOD3 := Lib.hid (show candF s.data.toList = _ by rw [HOD2.out, if_neg h35])
    rw [decide_eq_false h35]
    rintro e w1 ⟨rfl, rfl⟩
    clear HOD2 h35
    go_wp2_with fail
    refine (hasPre1 s 123 W).mono ?_
    rw [hasPre_head]
    by_cases h123 : s.data.toList.head? = some 123
    · rw [decide_eq_true h123]
      rintro e w1 ⟨rfl, rfl⟩
      have HC := Lib.hid (show candF s.data.toList = ⟨5, 0, [], codesC (Lib.split (Lib.trimS s.data.toList [123, 125]) [44])⟩ by rw [HOD3.out, if_pos h123])
      clear h123 HOD3
      go_wp2_with fail
      obtain ⟨W2, hW2⟩ : ∃ W2, W2 = W.alloc (.cells #[.int .i64 5, .int .i64 0, .string ⟨#[]⟩, .slice none 0 0] 24 (0, 0)) := ⟨_, rfl⟩
      have hb2 : Below W.heap.size W W2 := hW2 ▸ (Below.refl _ W).alloc (Nat.le_refl _) _
      have B1 : Blk W2 W.heap.size 24 #[.int .i64 5, .int .i64 0, .string ⟨#[]⟩, .slice none 0 0] := hW2 ▸ Blk.new W _ _
      rw [← hW2]
      have hlt0 := B0.lt
      have B0 := B0.below hb2 B0.lt
      have hbw := hbw.trans (hb2.mono hbw.size)
      clear hW2 hb2 rc0 rz0 rc1 rz1 rc2 rz2 rc3 rz3
      refine (trim_any s W2 hs).mono ?_
      rintro e w1 ⟨⟨t, rfl, ht⟩, hb1⟩
      have htl : t.size ≤ 2000000 := by
        rw [dsize ht]
        have := trimS_le s.data.toList [123, 125]
        rw [HSL.out] at this
        omega
      have HTT := Lib.hid ht
      have B0 := B0.below hb1 B0.lt
      have B1 := B1.below hb1 B1.lt
      have hbw := hbw.trans (hb1.mono hbw.size)
      clear ht hb1
      go_wp2_with fail
      refine (split_any t 44 w1 htl (HM.out.below hbw)).mono ?_
      rintro e w2 ⟨ps, rfl, hw2, hps, hpl⟩
      have hb1 : Below w1.heap.size w1 w2 := hw2 ▸ (Below.refl _ w1).alloc (Nat.le_refl _) _
      have hsz1 : w2.heap.size = w1.heap.size + 1 := by rw [hw2]; simp
      have B2 : Blk w2 w1.heap.size 9 (ps.map Value.string).toArray := hw2 ▸ Blk.new w1 _ _
      have HC2 := Lib.hid (show candF s.data.toList = ⟨5, 0, [], codesC (ps.map (·.data.toList))⟩ by rw [HC.out, ← HTT.out, ← hps])
      have HPS := Lib.hid (show ∀ p ∈ ps, p.data.toList.length ≤ 2000000 from fun p hp => by
        have h := split_le t.data.toList [44] p.data.toList (by rw [← hps]; exact List.mem_map.2 ⟨p, hp, rfl⟩)
        have h2 : t.data.toList.length = t.size := rfl
        omega)
      have hW1 : W.heap.size < w1.heap.size := B1.lt
      have B0 := B0.below hb1 B0.lt
      have B1 := B1.below hb1 B1.lt
      have hbw := hbw.trans (hb1.mono hbw.size)
      have hpm : ps.length ≤ 2000001 := by omega
      have hlt1 : w1.heap.size < w2.heap.size := by omega
      have HB0 := Lib.hid B0
      have HB1 := Lib.hid B1
      have HB2 := Lib.hid B2
      have hg0 : w.heap.size < w2.heap.size := B0.lt
      have hg1 : W.heap.size < w2.heap.size := B1.lt
      clear hps hw2 hb1 hpl hsz1 B0 B1 B2 HC HTT
      go_wp2
      go_loopw [74] (fun i wr => ∃ (k : Nat) (v : Value) (xs : List Int), k ≤ ps.length ∧ i = .int .i64 k ∧ Hid (Blk wr w.heap.size 24 #[.int .i64 0, .int .i64 0, .string ⟨#[]⟩, .slice none 0 0]) ∧ Hid (Blk wr W.heap.size 24 #[.int .i64 5, .int .i64 0, .string ⟨#[]⟩, v]) ∧ Hid (Blk wr w1.heap.size 9 (ps.map Value.string).toArray) ∧
          Hid (wr.ownsRow w2.heap.size 3 1 v xs.length (numV .i64 xs)) ∧ Hid (xs = codesC ((ps.map (·.data.toList)).take k)) ∧ xs.length ≤ k ∧ Below w.heap.size w wr ∧ w2.heap.size ≤ wr.heap.size) (fun i _ => ps.length - (intOf i).toNat)
      case atStart => exact ⟨0, _, [], Nat.zero_le _, rfl, HB0, HB1, HB2, Lib.hid (World.ownsRow_nil _ _ _ _), Lib.hid rfl, Nat.le_refl _, hbw, Nat.le_refl _⟩
      case round =>
        obtain ⟨k, v, xs, hk, rfl, B0, B1, B2, HO, HX2, hxk, hbr, hsr⟩ := hrel
        clear HB0 HB1 HB2
        obtain ⟨-, A, c, rfl, -⟩ := own_ints HO.out
        by_cases hlt : k < ps.length
        · obtain ⟨p, hp⟩ : ∃ p, ps[k] = p := ⟨_, rfl⟩
          have pc : wr.cell? ⟨w1.heap.size, k, none⟩ = some (.string p) := by rw [B2.out.cell k]; simp [hlt, hp]
          have HD := Lib.hid (show codesC ((ps.map (·.data.toList)).take (k + 1)) = xs ++ (if p.data.toList = [] then [] else [atoiN (Lib.trimPrefix p.data.toList [35])]) by
            rw [List.take_succ_eq_append_getElem (by simpa using hlt), codesC_snoc, List.getElem_map, hp, ← HX2.out])
          have hpb : p.data.toList.length ≤ 2000000 := HPS.out p (by rw [← hp]; exact List.getElem_mem _)
          clear hp HX2
          by_cases hp0 : p = ⟨#[]⟩
          · have se : p.toList.isEmpty = true := by rw [hp0, ByteArray.toList_eq]; rfl
            have HD2 := Lib.hid (show xs = codesC ((ps.map (·.data.toList)).take (k + 1)) by rw [HD.out, hp0]; simp)
            clear hp0 HD
            go_wp2
            go_roundw
            case rel => exact ⟨k + 1, _, xs, by omega, by go_num, B0, B1, B2, HO, HD2, by omega, hbr, hsr⟩
            case measure => simp [intOf]; omega
          · have hne : p.data.toList ≠ [] := fun e => hp0 (ba_of e)
            have se : p.toList.isEmpty = false := by rw [ByteArray.toList_eq]; simpa using hne
            have HD2 := Lib.hid (show codesC ((ps.map (·.data.toList)).take (k + 1)) = xs ++ [atoiN (Lib.trimPrefix p.data.toList [35])] by rw [HD.out, if_neg hne])
            clear hp0 HD hne
            go_wp2_with fail
            refine (trimPre p ⟨#[35]⟩ wr).mono ?_
            rintro e w3 ⟨⟨q, rfl, hq⟩, rfl⟩
            obtain ⟨a, ha⟩ : ∃ a, atoiN q.data.toList = a := ⟨_, rfl⟩
            have HA := Lib.hid ha
            have HD3 := Lib.hid (show xs ++ [a] = codesC ((ps.map (·.data.toList)).take (k + 1)) by rw [HD2.out, ← ha, hq])
            have hql : q.size ≤ 2000000 := by rw [dsize hq]; exact Nat.le_trans (Lib.trimPrefix_le _ _) hpb
            clear hq ha pc HD2
            go_wp2_with fail
            refine (atoi_any q wr hql (HE.out.below hbr)).mono ?_
            rw [HA.out]
            rintro e w3 ⟨⟨er, rfl⟩, hb3⟩
            clear HA
            have HO3 := Lib.hid (own_below HO.out hb3)
            have B0 := B0.out.below hb3 (by omega)
            have B1 := B1.out.below hb3 (by omega)
            have B2 := B2.out.below hb3 (by omega)
            have hbr := hbr.trans (hb3.mono hbr.size)
            have hsr : w2.heap.size ≤ w3.heap.size := Nat.le_trans hsr hb3.size
            have HROW := Lib.hid (show ∀ g, Value.ownBlock (.slice A xs.length c) = some g → w2.heap.size ≤ g from fun g hg => (HO3.out.lt g hg).1)
            clear hb3 HO
            have vc0 : w3.cell? ⟨W.heap.size, 0, none⟩ = some (.int .i64 5) := B1.cell 0
            have vz0 : w3.frozen? ⟨W.heap.size, 0, none⟩ = false := B1.frozen 0
            have vc1 : w3.cell? ⟨W.heap.size, 1, none⟩ = some (.int .i64 0) := B1.cell 1
            have vz1 : w3.frozen? ⟨W.heap.size, 1, none⟩ = false := B1.frozen 1
            have vc2 : w3.cell? ⟨W.heap.size, 2, none⟩ = some (.string ⟨#[]⟩) := B1.cell 2
            have vz2 : w3.frozen? ⟨W.heap.size, 2, none⟩ = false := B1.frozen 2
            have vc3 : w3.cell? ⟨W.heap.size, 3, none⟩ = some (.slice A xs.length c) := B1.cell 3
            have vz3 : w3.frozen? ⟨W.heap.size, 3, none⟩ = false := B1.frozen 3
            go_wp2_with (at_builtin; refine wpList_append_own _ rfl _ _ 22 rfl w2.heap.size 3 i0 (.int .i64 0) 1 8 Tryz.underlying22 hi0 hz0 hz1 hz2 rfl (by decide) _ _ _ rfl (HO3.out.alloc _) ⟨w3.heap.size, 0, none⟩ 1 1 [.int .i64 a] rfl rfl ?c1 ?c2 ?c3 ?c4 ?c5 ?_)
            case c1 => intro j u hj; cases j <;> simp_all [go_sem]
            case c2 => intro u hu; simp only [List.mem_singleton] at hu; subst hu; rfl
            case c3 => unfold maxLen; omega
            case c4 => omega
            case c5 => simp; omega
            intro v2 w4 hown4 hg4 _
            have hs4 : w3.heap.size + 1 ≤ w4.heap.size := by have := hg4.size; simpa using this
            have B0' : Blk w4 w.heap.size 24 #[.int .i64 0, .int .i64 0, .string ⟨#[]⟩, .slice none 0 0] := (B0.alloc _).grown hg4 (fun e => by have := HROW.out _ e.symm; omega)
            have B1' : Blk w4 W.heap.size 24 #[.int .i64 5, .int .i64 0, .string ⟨#[]⟩, .slice A xs.length c] := (B1.alloc _).grown hg4 (fun e => by have := HROW.out _ e.symm; omega)
            have B2' : Blk w4 w1.heap.size 9 (ps.map Value.string).toArray := (B2.alloc _).grown hg4 (fun e => by have := HROW.out _ e.symm; omega)
            have hb4 : Below w.heap.size w w4 := (hbr.alloc (by omega) _).grown hg4 (by simp; omega) (fun g hg => by have := HROW.out g hg; omega)
            have HO4 := Lib.hid (show w4.ownsRow w2.heap.size 3 1 v2 (xs ++ [a]).length (numV .i64 (xs ++ [a])) by rw [numV_snoc, List.length_append]; exact hown4)
            obtain ⟨ao, n', cap, rfl⟩ : ∃ ao n' cap, v2 = .slice ao n' cap := by
              rcases hown4.2 with ⟨hv, _⟩ | ⟨g, cap, cur, hv, _⟩
              · exact ⟨_, _, _, hv⟩
              · exact ⟨_, _, _, hv⟩
            clear hown4 hg4 vc0 vz0 vc1 vz1 vc2 vz2 vc3 vz3
            have vc3 : w4.cell? ⟨W.heap.size, 3, none⟩ = some (.slice A xs.length c) := B1'.cell 3
            have vz3 : w4.frozen? ⟨W.heap.size, 3, none⟩ = false := B1'.frozen 3
            go_wp2
            go_roundw
            case rel => exact ⟨k + 1, _, xs ++ [a], by omega, by go_num, Lib.hid (B0'.far (p := ⟨W.heap.size, 3, none⟩) (by show w.heap.size ≠ W.heap.size; omega) _), Lib.hid (B1'.set_ 3 _), Lib.hid (B2'.far (p := ⟨W.heap.size, 3, none⟩) (by show w1.heap.size ≠ W.heap.size; omega) _), Lib.hid (own_set HO4.out hg1 _), HD3, by rw [List.length_append]; show _ + 1 ≤ _; omega, hb4.setCell (p := ⟨W.heap.size, 3, none⟩) (by show w.heap.size ≤ W.heap.size; omega) _, by simp [World.setCell]; omega⟩
            case measure => simp [intOf]; omega
        · have HF := Lib.hid (show candF s.data.toList = ⟨5, 0, [], xs⟩ by
            rw [HC2.out, HX2.out, List.take_of_length_le (by simp; omega)])
          have hxl : xs.length ≤ 4000000 := by omega
          have B0 := B0.out
          have B1 := B1.out
          have rc0 : wr.cell? ⟨w.heap.size, 0, none⟩ = some (.int .i64 0) := B0.cell 0
          have rz0 : wr.frozen? ⟨w.heap.size, 0, none⟩ = false := B0.frozen 0
          have rc1 : wr.cell? ⟨w.heap.size, 1, none⟩ = some (.int .i64 0) := B0.cell 1
          have rz1 : wr.frozen? ⟨w.heap.size, 1, none⟩ = false := B0.frozen 1
          have rc2 : wr.cell? ⟨w.heap.size, 2, none⟩ = some (.string ⟨#[]⟩) := B0.cell 2
          have rz2 : wr.frozen? ⟨w.heap.size, 2, none⟩ = false := B0.frozen 2
          have rc3 : wr.cell? ⟨w.heap.size, 3, none⟩ = some (.slice none 0 0) := B0.cell 3
          have rz3 : wr.frozen? ⟨w.heap.size, 3, none⟩ = false := B0.frozen 3
          have vc0 : wr.cell? ⟨W.heap.size, 0, none⟩ = some (.int .i64 5) := B1.cell 0
          have vz0 : wr.frozen? ⟨W.heap.size, 0, none⟩ = false := B1.frozen 0
          have vc1 : wr.cell? ⟨W.heap.size, 1, none⟩ = some (.int .i64 0) := B1.cell 1
          have vz1 : wr.frozen? ⟨W.heap.size, 1, none⟩ = false := B1.frozen 1
          have vc2 : wr.cell? ⟨W.heap.size, 2, none⟩ = some (.string ⟨#[]⟩) := B1.cell 2
          have vz2 : wr.frozen? ⟨W.heap.size, 2, none⟩ = false := B1.frozen 2
          have vc3 : wr.cell? ⟨W.heap.size, 3, none⟩ = some (.slice A xs.length c) := B1.cell 3
          have vz3 : wr.frozen? ⟨W.heap.size, 3, none⟩ = false := B1.frozen 3
          clear HX2
          go_wp2
          obtain ⟨W9, hW9⟩ : ∃ W9, W9 = (((wr.setCell ⟨w.heap.size, 0, none⟩ (.int .i64 5)).setCell ⟨w.heap.size, 1, none⟩ (.int .i64 0)).setCell ⟨w.heap.size, 2, none⟩ (.string ⟨#[]⟩)).setCell ⟨w.heap.size, 3, none⟩ (.slice A xs.length c) := ⟨_, rfl⟩
          have B9 : Blk W9 (w.heap.size) 24 #[.int .i64 5, .int .i64 0, .string ⟨#[]⟩, .slice A xs.length c] := hW9 ▸ ((((B0.set_ 0 _).set_ 1 _).set_ 2 _).set_ 3 _)
          have hbw9 : Below w.heap.size w W9 := hW9 ▸ ((((hbr.setCell (p := ⟨w.heap.size, 0, none⟩) (Nat.le_refl _) _).setCell (p := ⟨w.heap.size, 1, none⟩) (Nat.le_refl _) _).setCell (p := ⟨w.heap.size, 2, none⟩) (Nat.le_refl _) _).setCell (p := ⟨w.heap.size, 3, none⟩) (Nat.le_refl _) _)
          have HO9 := Lib.hid (hW9 ▸ own_set (own_set (own_set (own_set HO.out hg0 _) hg0 _) hg0 _) hg0 _ : W9.ownsRow w2.heap.size 3 1 (.slice A xs.length c) xs.length (numV .i64 xs))
          rw [← hW9]
          clear hW9
          have qc0 : W9.cell? ⟨w.heap.size, 0, none⟩ = some (.int .i64 5) := B9.cell 0
          have qc1 : W9.cell? ⟨w.heap.size, 1, none⟩ = some (.int .i64 0) := B9.cell 1
          have qc2 : W9.cell? ⟨w.heap.size, 2, none⟩ = some (.string ⟨#[]⟩) := B9.cell 2
          have qc3 : W9.cell? ⟨w.heap.size, 3, none⟩ = some (.slice A xs.length c) := B9.cell 3
          refine bodyPost_ret (v := .agg #[.int .i64 5, .int .i64 0, .string ⟨#[]⟩, .slice A xs.length c]) (by simp [results, Tryz.results20, go_sem, qc0, qc1, qc2, qc3]) rfl ⟨⟨⟨⟨5, 0, ⟨#[]⟩, xs⟩, A, c, rfl, (own_reads HO9.out).1, (fun ad h => Nat.le_of_lt (Nat.lt_of_lt_of_le hg0 ((own_reads HO9.out).2 ad h))), hxl, (by show (0 : Nat) ≤ _; omega), HF.out⟩⟩, hbw9⟩
    have HOD4 := Lib.hid (show candF s.data.toList = _ by rw [HOD3.out, if_neg h123])
    rw [decide_eq_false h123]
    rintro e w1 ⟨rfl, rfl⟩
    clear HOD3 h123
    by_cases hA : s.size = 11 ∧ s.data.toList.head? = some 64
    · obtain ⟨hA1, hA2⟩ := hA
      have hp : 0 < s.size := by omega
      have b64 : (((s[0].toNat : Nat) : Int) == 64) = true := by
        have h := HH.out hp
        rw [hA2] at h
        injection h with h
        rw [← h]; decide
      have b11 : (((s.size : Nat) : Int) == 11) = true := by simp; omega
      have HC := Lib.hid (show candF s.data.toList = _ by rw [HOD4.out, if_pos ⟨by rw [HSL.out]; exact hA1, hA2⟩])
      have l11 : s.size ≤ 11 := by omega
      have g11 : 11 ≤ s.size := by omega
      clear hA1 hA2 HOD4
      go_wp2_with fail
      clear rc0 rz0 rc1 rz1 rc2 rz2 rc3 rz3
      refine (atoi_any (s.extract 1 5) W (by rw [ByteArray.size_extract]; omega) (HE.out.below hbw)).mono ?_
      obtain ⟨y, hy⟩ : ∃ n, atoiN ((s.data.toList.take 5).drop 1) = n := ⟨_, rfl⟩
      have HNy := Lib.hid hy
      rw [show (s.extract 1 5).data.toList = (s.data.toList.take 5).drop 1 from ext_td _ _ _, hy]
      clear hy
      rintro e wWy ⟨⟨ery, rfl⟩, hb1⟩
      have B0 := B0.below hb1 B0.lt
      have hbw := hbw.trans (hb1.mono hbw.size)
      clear hb1
      go_wp2_with fail
      refine (atoi_any (s.extract 6 8) wWy (by rw [ByteArray.size_extract]; omega) (HE.out.below hbw)).mono ?_
      obtain ⟨m, hm⟩ : ∃ n, atoiN ((s.data.toList.take 8).drop 6) = n := ⟨_, rfl⟩
      have HNm := Lib.hid hm
      rw [show (s.extract 6 8).data.toList = (s.data.toList.take 8).drop 6 from ext_td _ _ _, hm]
      clear hm
      rintro e wwWym ⟨⟨erm, rfl⟩, hb1⟩
      have B0 := B0.below hb1 B0.lt
      have hbw := hbw.trans (hb1.mono hbw.size)
      clear hb1
      go_wp2_with fail
      refine (atoi_any (s.extract 9 s.size) wwWym (by rw [ByteArray.size_extract]; omega) (HE.out.below hbw)).mono ?_
      obtain ⟨d, hd⟩ : ∃ n, atoiN (s.data.toList.drop 9) = n := ⟨_, rfl⟩
      have HNd := Lib.hid hd
      rw [show (s.extract 9 s.size).data.toList = s.data.toList.drop 9 from (by rw [ext_td, List.take_of_length_le (Nat.le_of_eq HSL.out)]), hd]
      clear hd
      rintro e wwwWymd ⟨⟨erd, rfl⟩, hb1⟩
      have B0 := B0.below hb1 B0.lt
      have hbw := hbw.trans (hb1.mono hbw.size)
      clear hb1
      go_wp2_with fail
      refine (RDate_any y m d wwwWymd).mono ?_
      obtain ⟨K, hK⟩ : ∃ K, dk y m d = K := ⟨_, rfl⟩
      obtain ⟨N, hN⟩ : ∃ N, dn y m d = N := ⟨_, rfl⟩
      have HF := Lib.hid (show candF s.data.toList = ⟨K, N, [], []⟩ by rw [HC.out, HNy.out, HNm.out, HNd.out, ← hK, ← hN]; rfl)
      rw [hK, hN]
      clear hK hN HC
      rintro e w9 ⟨rfl, hb1⟩
      have B0 := B0.below hb1 B0.lt
      have hbw := hbw.trans (hb1.mono hbw.size)
      clear hb1
      have rc0 : w9.cell? ⟨w.heap.size, 0, none⟩ = some (.int .i64 0) := B0.cell 0
      have rz0 : w9.frozen? ⟨w.heap.size, 0, none⟩ = false := B0.frozen 0
      have rc1 : w9.cell? ⟨w.heap.size, 1, none⟩ = some (.int .i64 0) := B0.cell 1
      have rz1 : w9.frozen? ⟨w.heap.size, 1, none⟩ = false := B0.frozen 1
      have rc2 : w9.cell? ⟨w.heap.size, 2, none⟩ = some (.string ⟨#[]⟩) := B0.cell 2
      have rz2 : w9.frozen? ⟨w.heap.size, 2, none⟩ = false := B0.frozen 2
      have rc3 : w9.cell? ⟨w.heap.size, 3, none⟩ = some (.slice none 0 0) := B0.cell 3
      have rz3 : w9.frozen? ⟨w.heap.size, 3, none⟩ = false := B0.frozen 3
      go_wp2
      obtain ⟨W9, hW9⟩ : ∃ W9, W9 = (((w9.setCell ⟨w.heap.size, 0, none⟩ (.int .i64 K)).setCell ⟨w.heap.size, 1, none⟩ (.int .i64 N)).setCell ⟨w.heap.size, 2, none⟩ (.string ⟨#[]⟩)).setCell ⟨w.heap.size, 3, none⟩ (.slice none 0 0) := ⟨_, rfl⟩
      have B9 : Blk W9 (w.heap.size) 24 #[.int .i64 K, .int .i64 N, .string ⟨#[]⟩, .slice none 0 0] := hW9 ▸ ((((B0.set_ 0 _).set_ 1 _).set_ 2 _).set_ 3 _)
      have hbw9 : Below w.heap.size w W9 := hW9 ▸ ((((hbw.setCell (p := ⟨w.heap.size, 0, none⟩) (Nat.le_refl _) _).setCell (p := ⟨w.heap.size, 1, none⟩) (Nat.le_refl _) _).setCell (p := ⟨w.heap.size, 2, none⟩) (Nat.le_refl _) _).setCell (p := ⟨w.heap.size, 3, none⟩) (Nat.le_refl _) _)
      rw [← hW9]
      clear hW9
      have qc0 : W9.cell? ⟨w.heap.size, 0, none⟩ = some (.int .i64 K) := B9.cell 0
      have qc1 : W9.cell? ⟨w.heap.size, 1, none⟩ = some (.int .i64 N) := B9.cell 1
      have qc2 : W9.cell? ⟨w.heap.size, 2, none⟩ = some (.string ⟨#[]⟩) := B9.cell 2
      have qc3 : W9.cell? ⟨w.heap.size, 3, none⟩ = some (.slice none 0 0) := B9.cell 3
      refine bodyPost_ret (v := .agg #[.int .i64 K, .int .i64 N, .string ⟨#[]⟩, .slice none 0 0]) (by simp [results, Tryz.results20, go_sem, qc0, qc1, qc2, qc3]) rfl ⟨CV.plain K (N) ⟨#[]⟩ (by decide) HF.out, hbw9⟩
    have HOD5 := Lib.hid (show candF s.data.toList = ⟨2, readDecF s.data.toList, [], []⟩ by rw [HOD4.out, if_neg (by rw [HSL.out]; exact hA)])
    clear HOD4
    go_upto_region 27 with (fail)
    go_cut [94] (fun v wx => v = .bool false ∧ W = wx)
    case first =>
      by_cases hA1 : s.size = 11
      · have hp : 0 < s.size := by omega
        have b11 : (((s.size : Nat) : Int) == 11) = true := by simp; omega
        have b64 : (((s[0].toNat : Nat) : Int) == 64) = false := by
          rw [beq_eq_false_iff_ne]
          intro h
          exact hA ⟨hA1, head_eq (c := 64) hp h⟩
        clear hA hA1
        go_wp2_with (fail)
        go_meet
        exact ⟨rfl, rfl⟩
      · have b11 : (((s.size : Nat) : Int) == 11) = false := by simp; omega
        clear hA hA1
        go_wp2_with (fail)
        go_meet
        exact ⟨rfl, rfl⟩
    case rest =>
    obtain ⟨rfl, rfl⟩ := hcut
    clear hA
    go_wp2_with fail
    refine (readDecimal_any s W hs (HM.out.below hbw) (HE.out.below hbw)).mono ?_
    obtain ⟨n, hn⟩ : ∃ n, readDecF s.data.toList = n := ⟨_, rfl⟩
    have HN := Lib.hid hn
    rw [hn]
    clear hn
    rintro e w1 ⟨rfl, hb1⟩
    have B0 := B0.below hb1 B0.lt
    have hbw := hbw.trans (hb1.mono hbw.size)
    clear hb1 rc0 rz0 rc1 rz1 rc2 rz2 rc3 rz3
    have rc0 : w1.cell? ⟨w.heap.size, 0, none⟩ = some (.int .i64 0) := B0.cell 0
    have rz0 : w1.frozen? ⟨w.heap.size, 0, none⟩ = false := B0.frozen 0
    have rc1 : w1.cell? ⟨w.heap.size, 1, none⟩ = some (.int .i64 0) := B0.cell 1
    have rz1 : w1.frozen? ⟨w.heap.size, 1, none⟩ = false := B0.frozen 1
    have rc2 : w1.cell? ⟨w.heap.size, 2, none⟩ = some (.string ⟨#[]⟩) := B0.cell 2
    have rz2 : w1.frozen? ⟨w.heap.size, 2, none⟩ = false := B0.frozen 2
    have rc3 : w1.cell? ⟨w.heap.size, 3, none⟩ = some (.slice none 0 0) := B0.cell 3
    have rz3 : w1.frozen? ⟨w.heap.size, 3, none⟩ = false := B0.frozen 3
    go_wp2
    obtain ⟨W9, hW9⟩ : ∃ W9, W9 = (((w1.setCell ⟨w.heap.size, 0, none⟩ (.int .i64 2)).setCell ⟨w.heap.size, 1, none⟩ (.int .i64 n)).setCell ⟨w.heap.size, 2, none⟩ (.string ⟨#[]⟩)).setCell ⟨w.heap.size, 3, none⟩ (.slice none 0 0) := ⟨_, rfl⟩
    have B9 : Blk W9 (w.heap.size) 24 #[.int .i64 2, .int .i64 n, .string ⟨#[]⟩, .slice none 0 0] := hW9 ▸ ((((B0.set_ 0 _).set_ 1 _).set_ 2 _).set_ 3 _)
    have hbw9 : Below w.heap.size w W9 := hW9 ▸ ((((hbw.setCell (p := ⟨w.heap.size, 0, none⟩) (Nat.le_refl _) _).setCell (p := ⟨w.heap.size, 1, none⟩) (Nat.le_refl _) _).setCell (p := ⟨w.heap.size, 2, none⟩) (Nat.le_refl _) _).setCell (p := ⟨w.heap.size, 3, none⟩) (Nat.le_refl _) _)
    rw [← hW9]
    clear hW9
    have qc0 : W9.cell? ⟨w.heap.size, 0, none⟩ = some (.int .i64 2) := B9.cell 0
    have qc1 : W9.cell? ⟨w.heap.size, 1, none⟩ = some (.int .i64 n) := B9.cell 1
    have qc2 : W9.cell? ⟨w.heap.size, 2, none⟩ = some (.string ⟨#[]⟩) := B9.cell 2
    have qc3 : W9.cell? ⟨w.heap.size, 3, none⟩ = some (.slice none 0 0) := B9.cell 3
    refine bodyPost_ret (v := .agg #[.int .i64 2, .int .i64 n, .string ⟨#[]⟩, .slice none 0 0]) (by simp [results, Tryz.results20, go_sem, qc0, qc1, qc2, qc3]) rfl ⟨CV.plain 2 (n) ⟨#[]⟩ (by decide) (by rw [HOD5.out, HN.out]), hbw9⟩
end Go.Proofs.YthnknmkekbledaaGreatDoor
