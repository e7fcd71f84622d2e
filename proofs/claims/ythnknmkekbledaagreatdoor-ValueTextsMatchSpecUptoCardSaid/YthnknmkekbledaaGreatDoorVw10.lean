/- The walks of guess and Read. -/
import Derived.Test.YthnknmkekbledaaGreatDoorVw9
namespace Go.Proofs.YthnknmkekbledaaGreatDoor
open Go.RowKit Dig Vtx

set_option maxHeartbeats 1000000 in
set_option maxRecDepth 100000 in
theorem guess_any (s : ByteArray) (w : World) (hs : s.size ≤ 2000000) (hm : Mx w) :
    Calls Tryz.prog 19 #[.string s] w fun e w' => GV e w' w.heap.size s.data.toList ∧ Below w.heap.size w w' := by
  by_cases h : s.data.toList = []
  · have hs2 : s = ⟨#[]⟩ := ba_of (by first | (rw [h]; done) | (rw [h]; rfl))
    subst hs2
    clear h hs hm
    go_enter Tryz.func19, Tryz.ntmps19
    go_wp2
    refine bodyPost_ret (v := .tuple #[.agg #[.int .i64 0, .int .i64 0, .string ⟨#[]⟩, .slice none 0 0], .bool false]) (by simp [results, Tryz.results19, go_sem]) rfl ⟨GV.plain 0 0 ⟨#[]⟩ false (by decide) (fun h => by first | rfl | cases h) (fun h => by first | rfl | cases h), ?_⟩
    first
      | exact (Below.refl _ _).alloc (Nat.le_refl _) _
      | exact ((Below.refl _ _).alloc (Nat.le_refl _) _).alloc (by simp) _
  by_cases h : s.data.toList = [45]
  · have hs2 : s = ⟨#[45]⟩ := ba_of (by first | (rw [h]; done) | (rw [h]; rfl))
    subst hs2
    clear h hs hm
    go_enter Tryz.func19, Tryz.ntmps19
    go_wp2
    refine bodyPost_ret (v := .tuple #[.agg #[.int .i64 0, .int .i64 0, .string ⟨#[]⟩, .slice none 0 0], .bool true]) (by simp [results, Tryz.results19, go_sem]) rfl ⟨GV.plain 0 0 ⟨#[]⟩ true (by decide) (fun h => by first | rfl | cases h) (fun h => by first | rfl | cases h), ?_⟩
    first
      | exact (Below.refl _ _).alloc (Nat.le_refl _) _
      | exact ((Below.refl _ _).alloc (Nat.le_refl _) _).alloc (by simp) _
  by_cases h : s.data.toList = trueT
  · have hs2 : s = ⟨#[116, 114, 117, 101]⟩ := ba_of (by first | (rw [h]; done) | (rw [h]; rfl))
    subst hs2
    clear h hs hm
    go_enter Tryz.func19, Tryz.ntmps19
    go_wp2
    refine bodyPost_ret (v := .tuple #[.agg #[.int .i64 7, .int .i64 1, .string ⟨#[]⟩, .slice none 0 0], .bool true]) (by simp [results, Tryz.results19, go_sem]) rfl ⟨GV.plain 7 1 ⟨#[]⟩ true (by decide) (fun h => by first | rfl | cases h) (fun h => by first | rfl | cases h), ?_⟩
    first
      | exact (Below.refl _ _).alloc (Nat.le_refl _) _
      | exact ((Below.refl _ _).alloc (Nat.le_refl _) _).alloc (by simp) _
  by_cases h : s.data.toList = falseT
  · have hs2 : s = ⟨#[102, 97, 108, 115, 101]⟩ := ba_of (by first | (rw [h]; done) | (rw [h]; rfl))
    subst hs2
    clear h hs hm
    go_enter Tryz.func19, Tryz.ntmps19
    go_wp2
    refine bodyPost_ret (v := .tuple #[.agg #[.int .i64 7, .int .i64 0, .string ⟨#[]⟩, .slice none 0 0], .bool true]) (by simp [results, Tryz.results19, go_sem]) rfl ⟨GV.plain 7 0 ⟨#[]⟩ true (by decide) (fun h => by first | rfl | cases h) (fun h => by first | rfl | cases h), ?_⟩
    first
      | exact (Below.refl _ _).alloc (Nat.le_refl _) _
      | exact ((Below.refl _ _).alloc (Nat.le_refl _) _).alloc (by simp) _
  rename_i h1 h2 h3
  exact guess_odd s w hs hm ⟨by assumption, by assumption, by assumption, by assumption⟩
/-- what Read hands back -/
structure RV (e : Ending) (w : World) (B : Nat) (s : List UInt8) : Prop where
  ex : ∃ (x : Val) (A : Option Addr) (c : Nat) (f : Int), e = .returned (.tuple #[.agg #[.int .i64 x.k, .int .i64 x.n, .string x.s, .slice A x.l.length c], .int .i64 f]) ∧ Reads w w.heap.size 1 A x.l.length (numV .i64 x.l) ∧ (∀ ad, A = some ad → B ≤ ad.block) ∧ x.l.length ≤ 4000000 ∧ x.s.size ≤ 4000000 ∧
    (f = 0 → checkV x = 0 ∧ showT x.k x.n x.s.data.toList x.l = s) ∧ (f ≠ 0 → f = 10 ∧ x = ⟨0, 0, ⟨#[]⟩, []⟩ ∧ ∀ v : Val, checkV v = 0 → showT v.k v.n v.s.data.toList v.l ≠ s)
theorem val_ext {x v : Val} (h : (⟨x.k, x.n, x.s.data.toList, x.l⟩ : Q) = ⟨v.k, v.n, v.s.data.toList, v.l⟩) : x = v := by
  obtain ⟨k, n, s, l⟩ := x
  obtain ⟨k', n', s', l'⟩ := v
  injection h with h1 h2 h3 h4
  simp only at h1 h2 h3 h4
  have hs : s = s' := (ba_of h3).trans (ba_of (t := s') rfl).symm
  subst h1 h2 hs h4
  rfl
theorem no_show {s : List UInt8} (h : guessF s = none) : ∀ v : Val, checkV v = 0 → showT v.k v.n v.s.data.toList v.l ≠ s := fun v hv e => by
  have := guess_show (snd_of hv).1
  rw [e, h] at this
  cases this
theorem one_show {s : List UInt8} {x : Val} (h : guessF s = some ⟨x.k, x.n, x.s.data.toList, x.l⟩) (hx : checkV x ≠ 0 ∨ showT x.k x.n x.s.data.toList x.l ≠ s) : ∀ v : Val, checkV v = 0 → showT v.k v.n v.s.data.toList v.l ≠ s := fun v hv e => by
  have := guess_show (snd_of hv).1
  rw [e, h] at this
  have := val_ext (Option.some.inj this)
  subst this
  rcases hx with hx | hx
  · exact hx hv
  · exact hx e
set_option maxHeartbeats 2000000 in
set_option maxRecDepth 100000 in
theorem Read_any (s : ByteArray) (w : World) (hs : s.size ≤ 2000000) (htab : Tab w) (hm : Mx w) :
    Calls Tryz.prog 6 #[.string s] w fun e w' => RV e w' w.heap.size s.data.toList ∧ Below w.heap.size w w' := by
  have HT := Lib.hid htab
  have HM := Lib.hid hm
  clear htab hm
  go_enter Tryz.func6, Tryz.ntmps6
  go_wp2_with fail
  obtain ⟨W, hW⟩ : ∃ W, W = (w.alloc (.cells #[.int .i64 0, .int .i64 0, .string ⟨#[]⟩, .slice none 0 0] 24 (0, 0))) := ⟨_, rfl⟩
  have hbw : Below w.heap.size w W := by rw [hW]; exact ((Below.refl _ w).alloc (Nat.le_refl _) _)
  have B0 : Blk W (w.heap.size) 24 #[.int .i64 0, .int .i64 0, .string ⟨#[]⟩, .slice none 0 0] := by
    rw [hW]
    have := Blk.new w 24 #[.int .i64 0, .int .i64 0, .string ⟨#[]⟩, .slice none 0 0]
    exact this
  have hsz : W.heap.size = w.heap.size + 1 := by rw [hW]; simp
  rw [← hW]
  clear hW hsz
  refine (guess_any s W hs (HM.out.below hbw)).mono ?_
  rintro e w1 ⟨hg, hb1⟩
  obtain ⟨x, A, c, ok, rfl, hrd, hA, hl, hs1, q1, q2⟩ := hg.ex
  have hA2 : ∀ ad, A = some ad → w.heap.size < ad.block := fun ad h => Nat.lt_of_lt_of_le B0.lt (hA ad h)
  have HRD := Lib.hid (And.intro hrd hA2)
  have HQ := Lib.hid (And.intro q1 q2)
  have B0 := B0.below hb1 B0.lt
  have hbw := hbw.trans (hb1.mono hbw.size)
  clear hg hb1 hrd hA q1 q2 hA2
  go_upto_region 2 with (fail)
  obtain ⟨W2, hW2⟩ : ∃ W2, W2 = w1.alloc (.cells #[.int .i64 x.k, .int .i64 x.n, .string x.s, .slice A x.l.length c] 24 (0, 0)) := ⟨_, rfl⟩
  have hb2 : Below w1.heap.size w1 W2 := hW2 ▸ (Below.refl _ w1).alloc (Nat.le_refl _) _
  have B3 : Blk W2 w1.heap.size 24 #[.int .i64 x.k, .int .i64 x.n, .string x.s, .slice A x.l.length c] := hW2 ▸ Blk.new w1 _ _
  rw [← hW2]
  have hlt := B0.lt
  have B0 := B0.below hb2 B0.lt
  have hrd2 := HRD.out.1.below hb2
  have hsz2 : w1.heap.size ≤ W2.heap.size := hb2.size
  have hbw := hbw.trans (hb2.mono hbw.size)
  have HRD := Lib.hid (And.intro (hrd2.more hsz2) HRD.out.2)
  clear hW2 hb2 hrd2
  have rc0 : W2.cell? ⟨w.heap.size, 0, none⟩ = some (.int .i64 0) := B0.cell 0
  have rz0 : W2.frozen? ⟨w.heap.size, 0, none⟩ = false := B0.frozen 0
  have rc1 : W2.cell? ⟨w.heap.size, 1, none⟩ = some (.int .i64 0) := B0.cell 1
  have rz1 : W2.frozen? ⟨w.heap.size, 1, none⟩ = false := B0.frozen 1
  have rc2 : W2.cell? ⟨w.heap.size, 2, none⟩ = some (.string ⟨#[]⟩) := B0.cell 2
  have rz2 : W2.frozen? ⟨w.heap.size, 2, none⟩ = false := B0.frozen 2
  have rc3 : W2.cell? ⟨w.heap.size, 3, none⟩ = some (.slice none 0 0) := B0.cell 3
  have rz3 : W2.frozen? ⟨w.heap.size, 3, none⟩ = false := B0.frozen 3
  have vc0 : W2.cell? ⟨w1.heap.size, 0, none⟩ = some (.int .i64 x.k) := B3.cell 0
  have vc1 : W2.cell? ⟨w1.heap.size, 1, none⟩ = some (.int .i64 x.n) := B3.cell 1
  have vc2 : W2.cell? ⟨w1.heap.size, 2, none⟩ = some (.string x.s) := B3.cell 2
  have vc3 : W2.cell? ⟨w1.heap.size, 3, none⟩ = some (.slice A x.l.length c) := B3.cell 3
  cases ok
  · have HN := Lib.hid (no_show (HQ.out.2 rfl))
    go_wp2
    obtain ⟨W9, hW9⟩ : ∃ W9, W9 = (((W2.setCell ⟨w.heap.size, 0, none⟩ (.int .i64 0)).setCell ⟨w.heap.size, 1, none⟩ (.int .i64 0)).setCell ⟨w.heap.size, 2, none⟩ (.string ⟨#[]⟩)).setCell ⟨w.heap.size, 3, none⟩ (.slice none 0 0) := ⟨_, rfl⟩
    have B9 : Blk W9 (w.heap.size) 24 #[.int .i64 0, .int .i64 0, .string ⟨#[]⟩, .slice none 0 0] := hW9 ▸ ((((B0.set_ 0 _).set_ 1 _).set_ 2 _).set_ 3 _)
    have hbw9 : Below w.heap.size w W9 := hW9 ▸ ((((hbw.setCell (p := ⟨w.heap.size, 0, none⟩) (Nat.le_refl _) _).setCell (p := ⟨w.heap.size, 1, none⟩) (Nat.le_refl _) _).setCell (p := ⟨w.heap.size, 2, none⟩) (Nat.le_refl _) _).setCell (p := ⟨w.heap.size, 3, none⟩) (Nat.le_refl _) _)
    rw [← hW9]
    clear hW9
    have qc0 : W9.cell? ⟨w.heap.size, 0, none⟩ = some (.int .i64 0) := B9.cell 0
    have qc1 : W9.cell? ⟨w.heap.size, 1, none⟩ = some (.int .i64 0) := B9.cell 1
    have qc2 : W9.cell? ⟨w.heap.size, 2, none⟩ = some (.string ⟨#[]⟩) := B9.cell 2
    have qc3 : W9.cell? ⟨w.heap.size, 3, none⟩ = some (.slice none 0 0) := B9.cell 3
    refine bodyPost_ret (v := .tuple #[.agg #[.int .i64 0, .int .i64 0, .string ⟨#[]⟩, .slice none 0 0], .int .i64 10]) (by simp [results, Tryz.results6, go_sem, qc0, qc1, qc2, qc3]) rfl ⟨⟨⟨⟨0, 0, ⟨#[]⟩, []⟩, none, 0, 10, rfl, Reads.none_, (fun _ h => by cases h), by simp, by decide, (fun h => absurd h (by decide)), (fun _ => ⟨rfl, rfl, HN.out⟩)⟩⟩, hbw9⟩
  have HG := Lib.hid (HQ.out.1 rfl)
  go_wp2_with fail
  refine (check_any x A c W2.heap.size W2 (by unfold maxLen; omega) (by unfold maxLen; omega) HRD.out.1 (Nat.le_refl _)).mono ?_
  rintro e w3 ⟨rfl, hb3⟩
  obtain ⟨f, hf⟩ : ∃ f, checkV x = f := ⟨_, rfl⟩
  have HF := Lib.hid hf
  rw [hf]
  have B0 := B0.below hb3 B0.lt
  have B3 := B3.below hb3 B3.lt
  have HRD := Lib.hid (And.intro ((HRD.out.1.below hb3).more hb3.size) HRD.out.2)
  have hbw := hbw.trans (hb3.mono hbw.size)
  clear hf hb3 rc0 rz0 rc1 rz1 rc2 rz2 rc3 rz3 vc0 vc1 vc2 vc3
  have rc0 : w3.cell? ⟨w.heap.size, 0, none⟩ = some (.int .i64 0) := B0.cell 0
  have rz0 : w3.frozen? ⟨w.heap.size, 0, none⟩ = false := B0.frozen 0
  have rc1 : w3.cell? ⟨w.heap.size, 1, none⟩ = some (.int .i64 0) := B0.cell 1
  have rz1 : w3.frozen? ⟨w.heap.size, 1, none⟩ = false := B0.frozen 1
  have rc2 : w3.cell? ⟨w.heap.size, 2, none⟩ = some (.string ⟨#[]⟩) := B0.cell 2
  have rz2 : w3.frozen? ⟨w.heap.size, 2, none⟩ = false := B0.frozen 2
  have rc3 : w3.cell? ⟨w.heap.size, 3, none⟩ = some (.slice none 0 0) := B0.cell 3
  have rz3 : w3.frozen? ⟨w.heap.size, 3, none⟩ = false := B0.frozen 3
  have vc0 : w3.cell? ⟨w1.heap.size, 0, none⟩ = some (.int .i64 x.k) := B3.cell 0
  have vc1 : w3.cell? ⟨w1.heap.size, 1, none⟩ = some (.int .i64 x.n) := B3.cell 1
  have vc2 : w3.cell? ⟨w1.heap.size, 2, none⟩ = some (.string x.s) := B3.cell 2
  have vc3 : w3.cell? ⟨w1.heap.size, 3, none⟩ = some (.slice A x.l.length c) := B3.cell 3
  by_cases h0 : f = 0
  rotate_left
  · have hne : (f != 0) = true := by simpa using h0
    have HN := Lib.hid (one_show HG.out (.inl (by rw [HF.out]; exact h0)))
    clear h0
    go_wp2
    obtain ⟨W9, hW9⟩ : ∃ W9, W9 = (((w3.setCell ⟨w.heap.size, 0, none⟩ (.int .i64 0)).setCell ⟨w.heap.size, 1, none⟩ (.int .i64 0)).setCell ⟨w.heap.size, 2, none⟩ (.string ⟨#[]⟩)).setCell ⟨w.heap.size, 3, none⟩ (.slice none 0 0) := ⟨_, rfl⟩
    have B9 : Blk W9 (w.heap.size) 24 #[.int .i64 0, .int .i64 0, .string ⟨#[]⟩, .slice none 0 0] := hW9 ▸ ((((B0.set_ 0 _).set_ 1 _).set_ 2 _).set_ 3 _)
    have hbw9 : Below w.heap.size w W9 := hW9 ▸ ((((hbw.setCell (p := ⟨w.heap.size, 0, none⟩) (Nat.le_refl _) _).setCell (p := ⟨w.heap.size, 1, none⟩) (Nat.le_refl _) _).setCell (p := ⟨w.heap.size, 2, none⟩) (Nat.le_refl _) _).setCell (p := ⟨w.heap.size, 3, none⟩) (Nat.le_refl _) _)
    rw [← hW9]
    clear hW9
    have qc0 : W9.cell? ⟨w.heap.size, 0, none⟩ = some (.int .i64 0) := B9.cell 0
    have qc1 : W9.cell? ⟨w.heap.size, 1, none⟩ = some (.int .i64 0) := B9.cell 1
    have qc2 : W9.cell? ⟨w.heap.size, 2, none⟩ = some (.string ⟨#[]⟩) := B9.cell 2
    have qc3 : W9.cell? ⟨w.heap.size, 3, none⟩ = some (.slice none 0 0) := B9.cell 3
    refine bodyPost_ret (v := .tuple #[.agg #[.int .i64 0, .int .i64 0, .string ⟨#[]⟩, .slice none 0 0], .int .i64 10]) (by simp [results, Tryz.results6, go_sem, qc0, qc1, qc2, qc3]) rfl ⟨⟨⟨⟨0, 0, ⟨#[]⟩, []⟩, none, 0, 10, rfl, Reads.none_, (fun _ h => by cases h), by simp, by decide, (fun h => absurd h (by decide)), (fun _ => ⟨rfl, rfl, HN.out⟩)⟩⟩, hbw9⟩
  subst h0
  obtain ⟨hq, hl4, hs4⟩ := snd_of HF.out
  have HQ2 := Lib.hid hq
  clear hq
  go_wp2_with fail
  refine (show_any x.k x.n x.s x.l _ A c w3.heap.size w3 rfl HQ2.out (by omega) (by omega) HRD.out.1 (Nat.le_refl _) (HT.out.below hbw) (HM.out.below hbw)).mono ?_
  rintro e w4 ⟨⟨t, rfl, ht⟩, hb4⟩
  have HTT := Lib.hid ht
  have B0 := B0.below hb4 B0.lt
  have B3 := B3.below hb4 B3.lt
  have HRD2 := Lib.hid (And.intro ((HRD.out.1.below hb4).more hb4.size) HRD.out.2)
  have hbw := hbw.trans (hb4.mono hbw.size)
  clear ht hb4 rc0 rz0 rc1 rz1 rc2 rz2 rc3 rz3 vc0 vc1 vc2 vc3
  have rc0 : w4.cell? ⟨w.heap.size, 0, none⟩ = some (.int .i64 0) := B0.cell 0
  have rz0 : w4.frozen? ⟨w.heap.size, 0, none⟩ = false := B0.frozen 0
  have rc1 : w4.cell? ⟨w.heap.size, 1, none⟩ = some (.int .i64 0) := B0.cell 1
  have rz1 : w4.frozen? ⟨w.heap.size, 1, none⟩ = false := B0.frozen 1
  have rc2 : w4.cell? ⟨w.heap.size, 2, none⟩ = some (.string ⟨#[]⟩) := B0.cell 2
  have rz2 : w4.frozen? ⟨w.heap.size, 2, none⟩ = false := B0.frozen 2
  have rc3 : w4.cell? ⟨w.heap.size, 3, none⟩ = some (.slice none 0 0) := B0.cell 3
  have rz3 : w4.frozen? ⟨w.heap.size, 3, none⟩ = false := B0.frozen 3
  have vc0 : w4.cell? ⟨w1.heap.size, 0, none⟩ = some (.int .i64 x.k) := B3.cell 0
  have vc1 : w4.cell? ⟨w1.heap.size, 1, none⟩ = some (.int .i64 x.n) := B3.cell 1
  have vc2 : w4.cell? ⟨w1.heap.size, 2, none⟩ = some (.string x.s) := B3.cell 2
  have vc3 : w4.cell? ⟨w1.heap.size, 3, none⟩ = some (.slice A x.l.length c) := B3.cell 3
  by_cases he : t = s
  · have b0 : (t.toList == s.toList) = true := strEq_true he
    have HE := Lib.hid (show showT x.k x.n x.s.data.toList x.l = s.data.toList by rw [← HTT.out, he])
    clear he
    go_wp2
    obtain ⟨W9, hW9⟩ : ∃ W9, W9 = (((w4.setCell ⟨w.heap.size, 0, none⟩ (.int .i64 x.k)).setCell ⟨w.heap.size, 1, none⟩ (.int .i64 x.n)).setCell ⟨w.heap.size, 2, none⟩ (.string x.s)).setCell ⟨w.heap.size, 3, none⟩ (.slice A x.l.length c) := ⟨_, rfl⟩
    have B9 : Blk W9 (w.heap.size) 24 #[.int .i64 x.k, .int .i64 x.n, .string x.s, .slice A x.l.length c] := hW9 ▸ ((((B0.set_ 0 _).set_ 1 _).set_ 2 _).set_ 3 _)
    have hbw9 : Below w.heap.size w W9 := hW9 ▸ ((((hbw.setCell (p := ⟨w.heap.size, 0, none⟩) (Nat.le_refl _) _).setCell (p := ⟨w.heap.size, 1, none⟩) (Nat.le_refl _) _).setCell (p := ⟨w.heap.size, 2, none⟩) (Nat.le_refl _) _).setCell (p := ⟨w.heap.size, 3, none⟩) (Nat.le_refl _) _)
    have HR9 := Lib.hid (hW9 ▸ (((HRD2.out.1.apart HRD2.out.2 _).apart HRD2.out.2 _).apart HRD2.out.2 _).apart HRD2.out.2 _ : Reads W9 w4.heap.size 1 A x.l.length (numV .i64 x.l))
    have hs9 : w4.heap.size ≤ W9.heap.size := by rw [hW9]; simp [World.setCell]
    rw [← hW9]
    clear hW9
    have qc0 : W9.cell? ⟨w.heap.size, 0, none⟩ = some (.int .i64 x.k) := B9.cell 0
    have qc1 : W9.cell? ⟨w.heap.size, 1, none⟩ = some (.int .i64 x.n) := B9.cell 1
    have qc2 : W9.cell? ⟨w.heap.size, 2, none⟩ = some (.string x.s) := B9.cell 2
    have qc3 : W9.cell? ⟨w.heap.size, 3, none⟩ = some (.slice A x.l.length c) := B9.cell 3
    refine bodyPost_ret (v := .tuple #[.agg #[.int .i64 x.k, .int .i64 x.n, .string x.s, .slice A x.l.length c], .int .i64 0]) (by simp [results, Tryz.results6, go_sem, qc0, qc1, qc2, qc3]) rfl ⟨⟨⟨x, A, c, 0, rfl, HR9.out.more hs9, (fun ad h => Nat.le_of_lt (HRD2.out.2 ad h)), hl, hs1, (fun _ => ⟨HF.out, HE.out⟩), (fun h => absurd rfl h)⟩⟩, hbw9⟩
  · have b0 : (t.toList == s.toList) = false := strEq_false he
    have HN := Lib.hid (one_show HG.out (.inr (fun e => he ((ba_of (HTT.out.trans e)).trans (ba_of (t := s) rfl).symm))))
    clear he
    go_wp2
    obtain ⟨W9, hW9⟩ : ∃ W9, W9 = (((w4.setCell ⟨w.heap.size, 0, none⟩ (.int .i64 0)).setCell ⟨w.heap.size, 1, none⟩ (.int .i64 0)).setCell ⟨w.heap.size, 2, none⟩ (.string ⟨#[]⟩)).setCell ⟨w.heap.size, 3, none⟩ (.slice none 0 0) := ⟨_, rfl⟩
    have B9 : Blk W9 (w.heap.size) 24 #[.int .i64 0, .int .i64 0, .string ⟨#[]⟩, .slice none 0 0] := hW9 ▸ ((((B0.set_ 0 _).set_ 1 _).set_ 2 _).set_ 3 _)
    have hbw9 : Below w.heap.size w W9 := hW9 ▸ ((((hbw.setCell (p := ⟨w.heap.size, 0, none⟩) (Nat.le_refl _) _).setCell (p := ⟨w.heap.size, 1, none⟩) (Nat.le_refl _) _).setCell (p := ⟨w.heap.size, 2, none⟩) (Nat.le_refl _) _).setCell (p := ⟨w.heap.size, 3, none⟩) (Nat.le_refl _) _)
    rw [← hW9]
    clear hW9
    have qc0 : W9.cell? ⟨w.heap.size, 0, none⟩ = some (.int .i64 0) := B9.cell 0
    have qc1 : W9.cell? ⟨w.heap.size, 1, none⟩ = some (.int .i64 0) := B9.cell 1
    have qc2 : W9.cell? ⟨w.heap.size, 2, none⟩ = some (.string ⟨#[]⟩) := B9.cell 2
    have qc3 : W9.cell? ⟨w.heap.size, 3, none⟩ = some (.slice none 0 0) := B9.cell 3
    refine bodyPost_ret (v := .tuple #[.agg #[.int .i64 0, .int .i64 0, .string ⟨#[]⟩, .slice none 0 0], .int .i64 10]) (by simp [results, Tryz.results6, go_sem, qc0, qc1, qc2, qc3]) rfl ⟨⟨⟨⟨0, 0, ⟨#[]⟩, []⟩, none, 0, 10, rfl, Reads.none_, (fun _ h => by cases h), by simp, by decide, (fun h => absurd h (by decide)), (fun _ => ⟨rfl, rfl, HN.out⟩)⟩⟩, hbw9⟩
end Go.Proofs.YthnknmkekbledaaGreatDoor
