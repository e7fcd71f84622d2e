/- The walks of guess and Read. · The program's parser in memory: its four cells, and the expressions that it has made (they lie behind it). · The walks of the parser's is, wrong, wordEnd. · The walk of the parser's next. · The walks of operation, constant. · Own rows of expressions behind the parser: what an operation's arguments are made of. -/
import Derived.Test.YtobanldeicclmaaGreatDoorP9
import Derived.Test.YtobanldeicclmaaGreatDoorP7
import Derived.Test.YtobanldeicclmaaGreatDoorP1
import Derived.Test.YtobanldeicclmaaGreatDoorP8
import Derived.Deep.RegionHeld3
import Derived.IntWalk
namespace Go.Proofs.YtobanldeicclmaaGreatDoor
open Go.RowKit Dig Vtx
set_option maxHeartbeats 1000000 in
set_option maxRecDepth 100000 in
theorem guess_any (s : ByteArray) (w : World) (hs : s.size ≤ 2000000) (hm : Mx w) :
    Calls Tryz.prog 171 #[.string s] w fun e w' => GV e w' w.heap.size s.data.toList ∧ Below w.heap.size w w' := by
  by_cases h : s.data.toList = []
  · have hs2 : s = ⟨#[]⟩ := ba_of (by first | (rw [h]; done) | (rw [h]; rfl))
    subst hs2
    clear h hs hm
    go_enter Tryz.func171, Tryz.ntmps171
    go_wp2
    refine bodyPost_ret (v := .tuple #[.agg #[.int .i64 0, .int .i64 0, .string ⟨#[]⟩, .slice none 0 0], .bool false]) (by simp [results, Tryz.results171, go_sem]) rfl ⟨GV.plain 0 0 ⟨#[]⟩ false (by decide) (fun h => by first | rfl | cases h) (fun h => by first | rfl | cases h), ?_⟩
    first
      | exact (Below.refl _ _).alloc (Nat.le_refl _) _
      | exact ((Below.refl _ _).alloc (Nat.le_refl _) _).alloc (by simp) _
  by_cases h : s.data.toList = [45]
  · have hs2 : s = ⟨#[45]⟩ := ba_of (by first | (rw [h]; done) | (rw [h]; rfl))
    subst hs2
    clear h hs hm
    go_enter Tryz.func171, Tryz.ntmps171
    go_wp2
    refine bodyPost_ret (v := .tuple #[.agg #[.int .i64 0, .int .i64 0, .string ⟨#[]⟩, .slice none 0 0], .bool true]) (by simp [results, Tryz.results171, go_sem]) rfl ⟨GV.plain 0 0 ⟨#[]⟩ true (by decide) (fun h => by first | rfl | cases h) (fun h => by first | rfl | cases h), ?_⟩
    first
      | exact (Below.refl _ _).alloc (Nat.le_refl _) _
      | exact ((Below.refl _ _).alloc (Nat.le_refl _) _).alloc (by simp) _
  by_cases h : s.data.toList = trueT
  · have hs2 : s = ⟨#[116, 114, 117, 101]⟩ := ba_of (by first | (rw [h]; done) | (rw [h]; rfl))
    subst hs2
    clear h hs hm
    go_enter Tryz.func171, Tryz.ntmps171
    go_wp2
    refine bodyPost_ret (v := .tuple #[.agg #[.int .i64 7, .int .i64 1, .string ⟨#[]⟩, .slice none 0 0], .bool true]) (by simp [results, Tryz.results171, go_sem]) rfl ⟨GV.plain 7 1 ⟨#[]⟩ true (by decide) (fun h => by first | rfl | cases h) (fun h => by first | rfl | cases h), ?_⟩
    first
      | exact (Below.refl _ _).alloc (Nat.le_refl _) _
      | exact ((Below.refl _ _).alloc (Nat.le_refl _) _).alloc (by simp) _
  by_cases h : s.data.toList = falseT
  · have hs2 : s = ⟨#[102, 97, 108, 115, 101]⟩ := ba_of (by first | (rw [h]; done) | (rw [h]; rfl))
    subst hs2
    clear h hs hm
    go_enter Tryz.func171, Tryz.ntmps171
    go_wp2
    refine bodyPost_ret (v := .tuple #[.agg #[.int .i64 7, .int .i64 0, .string ⟨#[]⟩, .slice none 0 0], .bool true]) (by simp [results, Tryz.results171, go_sem]) rfl ⟨GV.plain 7 0 ⟨#[]⟩ true (by decide) (fun h => by first | rfl | cases h) (fun h => by first | rfl | cases h), ?_⟩
    first
      | exact (Below.refl _ _).alloc (Nat.le_refl _) _
      | exact ((Below.refl _ _).alloc (Nat.le_refl _) _).alloc (by simp) _
  rename_i h1 h2 h3
  exact guess_odd s w hs hm ⟨by assumption, by assumption, by assumption, by assumption⟩
/-- what Read hands back -/
structure RV (e : Ending) (w : World) (B : Nat) (s : List UInt8) : Prop where
  ex : ∃ (x : Val) (A : Option Addr) (c : Nat) (f : Int), e = .returned (.tuple #[.agg #[.int .i64 x.k, .int .i64 x.n, .string x.s, .slice A x.l.length c], .int .i64 f]) ∧ Reads w w.heap.size 1 A x.l.length (numV .i64 x.l) ∧ (∀ ad, A = some ad → B ≤ ad.block) ∧ x.l.length ≤ 4000000 ∧ x.s.size ≤ 4000000 ∧
    (f = 0 → checkV x = 0 ∧ showT x.k x.n x.s.data.toList x.l = s) ∧ (f ≠ 0 → f = 10 ∧ x = ⟨0, 0, ⟨#[]⟩, []⟩ ∧ ∀ v : Val, checkV v = 0 → showT v.k v.n v.s.data.toList v.l ≠ s)
theorem val_ext {x v : Val} (h : (⟨x.k, x.n, x.s.data.toList, x.l⟩ : Q) = ⟨v.k, v.n, v.s.data.toList, v.l⟩) : x = v := by
  obtain ⟨k, n, s, l⟩ := x
  obtain ⟨k', n', s', l'⟩ := v
  injection h with h1 h2 h3 h4
  simp only at h1 h2 h3 h4
  have hs : s = s' := (ba_of h3).trans (ba_of (t := s') rfl).symm
  subst h1 h2 hs h4
  rfl
theorem no_show {s : List UInt8} (h : guessF s = none) : ∀ v : Val, checkV v = 0 → showT v.k v.n v.s.data.toList v.l ≠ s := fun v hv e => by
  have := guess_show (snd_of hv).1
  rw [e, h] at this
  cases this
theorem one_show {s : List UInt8} {x : Val} (h : guessF s = some ⟨x.k, x.n, x.s.data.toList, x.l⟩) (hx : checkV x ≠ 0 ∨ showT x.k x.n x.s.data.toList x.l ≠ s) : ∀ v : Val, checkV v = 0 → showT v.k v.n v.s.data.toList v.l ≠ s := fun v hv e => by
  have := guess_show (snd_of hv).1
  rw [e, h] at this
  have := val_ext (Option.some.inj this)
  subst this
  rcases hx with hx | hx
  · exact hx hv
  · exact hx e
set_option maxHeartbeats 2000000 in
set_option maxRecDepth 100000 in
theorem Read_any (s : ByteArray) (w : World) (hs : s.size ≤ 2000000) (htab : Tab w) (hm : Mx w) :
    Calls Tryz.prog 160 #[.string s] w fun e w' => RV e w' w.heap.size s.data.toList ∧ Below w.heap.size w w' := by
  have HT := Lib.hid htab
  have HM := Lib.hid hm
  clear htab hm
  go_enter Tryz.func160, Tryz.ntmps160
  go_wp2_with fail
  obtain ⟨W, hW⟩ : ∃ W, W = (w.alloc (.cells #[.int .i64 0, .int .i64 0, .string ⟨#[]⟩, .slice none 0 0] 24 (0, 0))) := ⟨_, rfl⟩
  have hbw : Below w.heap.size w W := by rw [hW]; exact ((Below.refl _ w).alloc (Nat.le_refl _) _)
  have B0 : Blk W (w.heap.size) 24 #[.int .i64 0, .int .i64 0, .string ⟨#[]⟩, .slice none 0 0] := by
    rw [hW]
    have := Blk.new w 24 #[.int .i64 0, .int .i64 0, .string ⟨#[]⟩, .slice none 0 0]
    exact this
  have hsz : W.heap.size = w.heap.size + 1 := by rw [hW]; simp
  rw [← hW]
  clear hW hsz
  refine (guess_any s W hs (HM.out.below hbw)).mono ?_
  rintro e w1 ⟨hg, hb1⟩
  obtain ⟨x, A, c, ok, rfl, hrd, hA, hl, hs1, q1, q2⟩ := hg.ex
  have hA2 : ∀ ad, A = some ad → w.heap.size < ad.block := fun ad h => Nat.lt_of_lt_of_le B0.lt (hA ad h)
  have HRD := Lib.hid (And.intro hrd hA2)
  have HQ := Lib.hid (And.intro q1 q2)
  have B0 := B0.below hb1 B0.lt
  have hbw := hbw.trans (hb1.mono hbw.size)
  clear hg hb1 hrd hA q1 q2 hA2
  go_upto_region 2 with (fail)
  obtain ⟨W2, hW2⟩ : ∃ W2, W2 = w1.alloc (.cells #[.int .i64 x.k, .int .i64 x.n, .string x.s, .slice A x.l.length c] 24 (0, 0)) := ⟨_, rfl⟩
  have hb2 : Below w1.heap.size w1 W2 := hW2 ▸ (Below.refl _ w1).alloc (Nat.le_refl _) _
  have B3 : Blk W2 w1.heap.size 24 #[.int .i64 x.k, .int .i64 x.n, .string x.s, .slice A x.l.length c] := hW2 ▸ Blk.new w1 _ _
  rw [← hW2]
  have hlt := B0.lt
  have B0 := B0.below hb2 B0.lt
  have hrd2 := HRD.out.1.below hb2
  have hsz2 : w1.heap.size ≤ W2.heap.size := hb2.size
  have hbw := hbw.trans (hb2.mono hbw.size)
  have HRD := Lib.hid (And.intro (hrd2.more hsz2) HRD.out.2)
  clear hW2 hb2 hrd2
  have rc0 : W2.cell? ⟨w.heap.size, 0, none⟩ = some (.int .i64 0) := B0.cell 0
  have rz0 : W2.frozen? ⟨w.heap.size, 0, none⟩ = false := B0.frozen 0
  have rc1 : W2.cell? ⟨w.heap.size, 1, none⟩ = some (.int .i64 0) := B0.cell 1
  have rz1 : W2.frozen? ⟨w.heap.size, 1, none⟩ = false := B0.frozen 1
  have rc2 : W2.cell? ⟨w.heap.size, 2, none⟩ = some (.string ⟨#[]⟩) := B0.cell 2
  have rz2 : W2.frozen? ⟨w.heap.size, 2, none⟩ = false := B0.frozen 2
  have rc3 : W2.cell? ⟨w.heap.size, 3, none⟩ = some (.slice none 0 0) := B0.cell 3
  have rz3 : W2.frozen? ⟨w.heap.size, 3, none⟩ = false := B0.frozen 3
  have vc0 : W2.cell? ⟨w1.heap.size, 0, none⟩ = some (.int .i64 x.k) := B3.cell 0
  have vc1 : W2.cell? ⟨w1.heap.size, 1, none⟩ = some (.int .i64 x.n) := B3.cell 1
  have vc2 : W2.cell? ⟨w1.heap.size, 2, none⟩ = some (.string x.s) := B3.cell 2
  have vc3 : W2.cell? ⟨w1.heap.size, 3, none⟩ = some (.slice A x.l.length c) := B3.cell 3
  cases ok
  · have HN := Lib.hid (no_show (HQ.out.2 rfl))
    go_wp2
    obtain ⟨W9, hW9⟩ : ∃ W9, W9 = (((W2.setCell ⟨w.heap.size, 0, none⟩ (.int .i64 0)).setCell ⟨w.heap.size, 1, none⟩ (.int .i64 0)).setCell ⟨w.heap.size, 2, none⟩ (.string ⟨#[]⟩)).setCell ⟨w.heap.size, 3, none⟩ (.slice none 0 0) := ⟨_, rfl⟩
    have B9 : Blk W9 (w.heap.size) 24 #[.int .i64 0, .int .i64 0, .string ⟨#[]⟩, .slice none 0 0] := hW9 ▸ ((((B0.set_ 0 _).set_ 1 _).set_ 2 _).set_ 3 _)
    have hbw9 : Below w.heap.size w W9 := hW9 ▸ ((((hbw.setCell (p := ⟨w.heap.size, 0, none⟩) (Nat.le_refl _) _).setCell (p := ⟨w.heap.size, 1, none⟩) (Nat.le_refl _) _).setCell (p := ⟨w.heap.size, 2, none⟩) (Nat.le_refl _) _).setCell (p := ⟨w.heap.size, 3, none⟩) (Nat.le_refl _) _)
    rw [← hW9]
    clear hW9
    have qc0 : W9.cell? ⟨w.heap.size, 0, none⟩ = some (.int .i64 0) := B9.cell 0
    have qc1 : W9.cell? ⟨w.heap.size, 1, none⟩ = some (.int .i64 0) := B9.cell 1
    have qc2 : W9.cell? ⟨w.heap.size, 2, none⟩ = some (.string ⟨#[]⟩) := B9.cell 2
    have qc3 : W9.cell? ⟨w.heap.size, 3, none⟩ = some (.slice none 0 0) := B9.cell 3
    refine bodyPost_ret (v := .tuple #[.agg #[.int .i64 0, .int .i64 0, .string ⟨#[]⟩, .slice none 0 0], .int .i64 10]) (by simp [results, Tryz.results160, go_sem, qc0, qc1, qc2, qc3]) rfl ⟨⟨⟨⟨0, 0, ⟨#[]⟩, []⟩, none, 0, 10, rfl, Reads.none_, (fun _ h => by cases h), by simp, by decide, (fun h => absurd h (by decide)), (fun _ => ⟨rfl, rfl, HN.out⟩)⟩⟩, hbw9⟩
  have HG := Lib.hid (HQ.out.1 rfl)
  go_wp2_with fail
  refine (check_any x A c W2.heap.size W2 (by unfold maxLen; omega) (by unfold maxLen; omega) HRD.out.1 (Nat.le_refl _)).mono ?_
  rintro e w3 ⟨rfl, hb3⟩
  obtain ⟨f, hf⟩ : ∃ f, checkV x = f := ⟨_, rfl⟩
  have HF := Lib.hid hf
  rw [hf]
  have B0 := B0.below hb3 B0.lt
  have B3 := B3.below hb3 B3.lt
  have HRD := Lib.hid (And.intro ((HRD.out.1.below hb3).more hb3.size) HRD.out.2)
  have hbw := hbw.trans (hb3.mono hbw.size)
  clear hf hb3 rc0 rz0 rc1 rz1 rc2 rz2 rc3 rz3 vc0 vc1 vc2 vc3
  have rc0 : w3.cell? ⟨w.heap.size, 0, none⟩ = some (.int .i64 0) := B0.cell 0
  have rz0 : w3.frozen? ⟨w.heap.size, 0, none⟩ = false := B0.frozen 0
  have rc1 : w3.cell? ⟨w.heap.size, 1, none⟩ = some (.int .i64 0) := B0.cell 1
  have rz1 : w3.frozen? ⟨w.heap.size, 1, none⟩ = false := B0.frozen 1
  have rc2 : w3.cell? ⟨w.heap.size, 2, none⟩ = some (.string ⟨#[]⟩) := B0.cell 2
  have rz2 : w3.frozen? ⟨w.heap.size, 2, none⟩ = false := B0.frozen 2
  have rc3 : w3.cell? ⟨w.heap.size, 3, none⟩ = some (.slice none 0 0) := B0.cell 3
  have rz3 : w3.frozen? ⟨w.heap.size, 3, none⟩ = false := B0.frozen 3
  have vc0 : w3.cell? ⟨w1.heap.size, 0, none⟩ = some (.int .i64 x.k) := B3.cell 0
  have vc1 : w3.cell? ⟨w1.heap.size, 1, none⟩ = some (.int .i64 x.n) := B3.cell 1
  have vc2 : w3.cell? ⟨w1.heap.size, 2, none⟩ = some (.string x.s) := B3.cell 2
  have vc3 : w3.cell? ⟨w1.heap.size, 3, none⟩ = some (.slice A x.l.length c) := B3.cell 3
  by_cases h0 : f = 0
  rotate_left
  · have hne : (f != 0) = true := by simpa using h0
    have HN := Lib.hid (one_show HG.out (.inl (by rw [HF.out]; exact h0)))
    clear h0
    go_wp2
    obtain ⟨W9, hW9⟩ : ∃ W9, W9 = (((w3.setCell ⟨w.heap.size, 0, none⟩ (.int .i64 0)).setCell ⟨w.heap.size, 1, none⟩ (.int .i64 0)).setCell ⟨w.heap.size, 2, none⟩ (.string ⟨#[]⟩)).setCell ⟨w.heap.size, 3, none⟩ (.slice none 0 0) := ⟨_, rfl⟩
    have B9 : Blk W9 (w.heap.size) 24 #[.int .i64 0, .int .i64 0, .string ⟨#[]⟩, .slice none 0 0] := hW9 ▸ ((((B0.set_ 0 _).set_ 1 _).set_ 2 _).set_ 3 _)
    have hbw9 : Below w.heap.size w W9 := hW9 ▸ ((((hbw.setCell (p := ⟨w.heap.size, 0, none⟩) (Nat.le_refl _) _).setCell (p := ⟨w.heap.size, 1, none⟩) (Nat.le_refl _) _).setCell (p := ⟨w.heap.size, 2, none⟩) (Nat.le_refl _) _).setCell (p := ⟨w.heap.size, 3, none⟩) (Nat.le_refl _) _)
    rw [← hW9]
    clear hW9
    have qc0 : W9.cell? ⟨w.heap.size, 0, none⟩ = some (.int .i64 0) := B9.cell 0
    have qc1 : W9.cell? ⟨w.heap.size, 1, none⟩ = some (.int .i64 0) := B9.cell 1
    have qc2 : W9.cell? ⟨w.heap.size, 2, none⟩ = some (.string ⟨#[]⟩) := B9.cell 2
    have qc3 : W9.cell? ⟨w.heap.size, 3, none⟩ = some (.slice none 0 0) := B9.cell 3
    refine bodyPost_ret (v := .tuple #[.agg #[.int .i64 0, .int .i64 0, .string ⟨#[]⟩, .slice none 0 0], .int .i64 10]) (by simp [results, Tryz.results160, go_sem, qc0, qc1, qc2, qc3]) rfl ⟨⟨⟨⟨0, 0, ⟨#[]⟩, []⟩, none, 0, 10, rfl, Reads.none_, (fun _ h => by cases h), by simp, by decide, (fun h => absurd h (by decide)), (fun _ => ⟨rfl, rfl, HN.out⟩)⟩⟩, hbw9⟩
  subst h0
  obtain ⟨hq, hl4, hs4⟩ := snd_of HF.out
  have HQ2 := Lib.hid hq
  clear hq
  go_wp2_with fail
  refine (show_any x.k x.n x.s x.l _ A c w3.heap.size w3 rfl HQ2.out (by omega) (by omega) HRD.out.1 (Nat.le_refl _) (HT.out.below hbw) (HM.out.below hbw)).mono ?_
  rintro e w4 ⟨⟨t, rfl, ht⟩, hb4⟩
  have HTT := Lib.hid ht
  have B0 := B0.below hb4 B0.lt
  have B3 := B3.below hb4 B3.lt
  have HRD2 := Lib.hid (And.intro ((HRD.out.1.below hb4).more hb4.size) HRD.out.2)
  have hbw := hbw.trans (hb4.mono hbw.size)
  clear ht hb4 rc0 rz0 rc1 rz1 rc2 rz2 rc3 rz3 vc0 vc1 vc2 vc3
  have rc0 : w4.cell? ⟨w.heap.size, 0, none⟩ = some (.int .i64 0) := B0.cell 0
  have rz0 : w4.frozen? ⟨w.heap.size, 0, none⟩ = false := B0.frozen 0
  have rc1 : w4.cell? ⟨w.heap.size, 1, none⟩ = some (.int .i64 0) := B0.cell 1
  have rz1 : w4.frozen? ⟨w.heap.size, 1, none⟩ = false := B0.frozen 1
  have rc2 : w4.cell? ⟨w.heap.size, 2, none⟩ = some (.string ⟨#[]⟩) := B0.cell 2
  have rz2 : w4.frozen? ⟨w.heap.size, 2, none⟩ = false := B0.frozen 2
  have rc3 : w4.cell? ⟨w.heap.size, 3, none⟩ = some (.slice none 0 0) := B0.cell 3
  have rz3 : w4.frozen? ⟨w.heap.size, 3, none⟩ = false := B0.frozen 3
  have vc0 : w4.cell? ⟨w1.heap.size, 0, none⟩ = some (.int .i64 x.k) := B3.cell 0
  have vc1 : w4.cell? ⟨w1.heap.size, 1, none⟩ = some (.int .i64 x.n) := B3.cell 1
  have vc2 : w4.cell? ⟨w1.heap.size, 2, none⟩ = some (.string x.s) := B3.cell 2
  have vc3 : w4.cell? ⟨w1.heap.size, 3, none⟩ = some (.slice A x.l.length c) := B3.cell 3
  by_cases he : t = s
  · have b0 : (t.toList == s.toList) = true := strEq_true he
    have HE := Lib.hid (show showT x.k x.n x.s.data.toList x.l = s.data.toList by rw [← HTT.out, he])
    clear he
    go_wp2
    obtain ⟨W9, hW9⟩ : ∃ W9, W9 = (((w4.setCell ⟨w.heap.size, 0, none⟩ (.int .i64 x.k)).setCell ⟨w.heap.size, 1, none⟩ (.int .i64 x.n)).setCell ⟨w.heap.size, 2, none⟩ (.string x.s)).setCell ⟨w.heap.size, 3, none⟩ (.slice A x.l.length c) := ⟨_, rfl⟩
    have B9 : Blk W9 (w.heap.size) 24 #[.int .i64 x.k, .int .i64 x.n, .string x.s, .slice A x.l.length c] := hW9 ▸ ((((B0.set_ 0 _).set_ 1 _).set_ 2 _).set_ 3 _)
    have hbw9 : Below w.heap.size w W9 := hW9 ▸ ((((hbw.setCell (p := ⟨w.heap.size, 0, none⟩) (Nat.le_refl _) _).setCell (p := ⟨w.heap.size, 1, none⟩) (Nat.le_refl _) _).setCell (p := ⟨w.heap.size, 2, none⟩) (Nat.le_refl _) _).setCell (p := ⟨w.heap.size, 3, none⟩) (Nat.le_refl _) _)
    have HR9 := Lib.hid (hW9 ▸ (((HRD2.out.1.apart HRD2.out.2 _).apart HRD2.out.2 _).apart HRD2.out.2 _).apart HRD2.out.2 _ : Reads W9 w4.heap.size 1 A x.l.length (numV .i64 x.l))
    have hs9 : w4.heap.size ≤ W9.heap.size := by rw [hW9]; simp [World.setCell]
    rw [← hW9]
    clear hW9
    have qc0 : W9.cell? ⟨w.heap.size, 0, none⟩ = some (.int .i64 x.k) := B9.cell 0
    have qc1 : W9.cell? ⟨w.heap.size, 1, none⟩ = some (.int .i64 x.n) := B9.cell 1
    have qc2 : W9.cell? ⟨w.heap.size, 2, none⟩ = some (.string x.s) := B9.cell 2
    have qc3 : W9.cell? ⟨w.heap.size, 3, none⟩ = some (.slice A x.l.length c) := B9.cell 3
    refine bodyPost_ret (v := .tuple #[.agg #[.int .i64 x.k, .int .i64 x.n, .string x.s, .slice A x.l.length c], .int .i64 0]) (by simp [results, Tryz.results160, go_sem, qc0, qc1, qc2, qc3]) rfl ⟨⟨⟨x, A, c, 0, rfl, HR9.out.more hs9, (fun ad h => Nat.le_of_lt (HRD2.out.2 ad h)), hl, hs1, (fun _ => ⟨HF.out, HE.out⟩), (fun h => absurd rfl h)⟩⟩, hbw9⟩
  · have b0 : (t.toList == s.toList) = false := strEq_false he
    have HN := Lib.hid (one_show HG.out (.inr (fun e => he ((ba_of (HTT.out.trans e)).trans (ba_of (t := s) rfl).symm))))
    clear he
    go_wp2
    obtain ⟨W9, hW9⟩ : ∃ W9, W9 = (((w4.setCell ⟨w.heap.size, 0, none⟩ (.int .i64 0)).setCell ⟨w.heap.size, 1, none⟩ (.int .i64 0)).setCell ⟨w.heap.size, 2, none⟩ (.string ⟨#[]⟩)).setCell ⟨w.heap.size, 3, none⟩ (.slice none 0 0) := ⟨_, rfl⟩
    have B9 : Blk W9 (w.heap.size) 24 #[.int .i64 0, .int .i64 0, .string ⟨#[]⟩, .slice none 0 0] := hW9 ▸ ((((B0.set_ 0 _).set_ 1 _).set_ 2 _).set_ 3 _)
    have hbw9 : Below w.heap.size w W9 := hW9 ▸ ((((hbw.setCell (p := ⟨w.heap.size, 0, none⟩) (Nat.le_refl _) _).setCell (p := ⟨w.heap.size, 1, none⟩) (Nat.le_refl _) _).setCell (p := ⟨w.heap.size, 2, none⟩) (Nat.le_refl _) _).setCell (p := ⟨w.heap.size, 3, none⟩) (Nat.le_refl _) _)
    rw [← hW9]
    clear hW9
    have qc0 : W9.cell? ⟨w.heap.size, 0, none⟩ = some (.int .i64 0) := B9.cell 0
    have qc1 : W9.cell? ⟨w.heap.size, 1, none⟩ = some (.int .i64 0) := B9.cell 1
    have qc2 : W9.cell? ⟨w.heap.size, 2, none⟩ = some (.string ⟨#[]⟩) := B9.cell 2
    have qc3 : W9.cell? ⟨w.heap.size, 3, none⟩ = some (.slice none 0 0) := B9.cell 3
    refine bodyPost_ret (v := .tuple #[.agg #[.int .i64 0, .int .i64 0, .string ⟨#[]⟩, .slice none 0 0], .int .i64 10]) (by simp [results, Tryz.results160, go_sem, qc0, qc1, qc2, qc3]) rfl ⟨⟨⟨⟨0, 0, ⟨#[]⟩, []⟩, none, 0, 10, rfl, Reads.none_, (fun _ h => by cases h), by simp, by decide, (fun h => absurd h (by decide)), (fun _ => ⟨rfl, rfl, HN.out⟩)⟩⟩, hbw9⟩
end Go.Proofs.YtobanldeicclmaaGreatDoor
namespace Go.Proofs.YtobanldeicclmaaGreatDoor
open Go.RowKit
/-- all blocks but g stay as they were -/
abbrev Kp (g : Nat) (w w' : World) : Prop := w.grownBy w' (some g)
theorem kp_refl (g : Nat) (w : World) : Kp g w w := ⟨rfl, rfl, rfl, Nat.le_refl _, fun _ _ _ => rfl⟩
theorem Kp.trans {g : Nat} {w w1 w2 : World} (h : Kp g w w1) (h' : Kp g w1 w2) : Kp g w w2 :=
  ⟨h'.os.trans h.os, h'.tape.trans h.tape, h'.output.trans h.output, Nat.le_trans h.size h'.size, fun k hk hg => (h'.block k (Nat.lt_of_lt_of_le hk h.size) hg).trans (h.block k hk hg)⟩
theorem Kp.of {g : Nat} {w w' : World} (h : Below w.heap.size w w') : Kp g w w' := ⟨h.os, h.tape, h.output, h.size, fun k hk _ => h.block k hk⟩
theorem Kp.below {g B : Nat} {w w' : World} (h : Kp g w w') (hB : B ≤ g) (hs : B ≤ w.heap.size) : Below B w w' :=
  (Below.refl B w).grown h hs (fun k hk => by injection hk with hk; omega)
theorem Kp.set {g : Nat} {w w' : World} (h : Kp g w w') (i : Nat) (u : Value) : Kp g w (w'.setCell ⟨g, i, none⟩ u) :=
  h.trans ⟨rfl, rfl, rfl, by simp [World.setCell], fun k _ hk => Below.heap_setCell w' ⟨g, i, none⟩ u k (fun e => hk (by rw [e]))⟩
theorem Kp.alloc {g : Nat} {w w' : World} (h : Kp g w w') (o : Obj) : Kp g w (w'.alloc o) := h.trans (Kp.of ((Below.refl _ _).alloc (Nat.le_refl _) o))
theorem Kp.cell {g : Nat} {w w' : World} (h : Kp g w w') {a : Addr} (hg : a.block ≠ g) {v : Value} (hc : w.cell? a = some v) : w'.cell? a = some v := by
  rw [World.cell?_of_block (h.block a.block (block_lt_of_cell hc) (fun e => hg (by injection e)))]; exact hc
/-- a slice that reads as a list, all of it in blocks that meet p -/
structure ReadsL (w : World) (p : Nat → Prop) (B size : Nat) (A : Option Addr) (n : Nat) (xs : List Value) : Prop where
  r : Reads w B size A n xs
  l : 0 < n → ∀ ad, A = some ad → p ad.block
/-- the blocks that meet p stay as they were -/
def Stay (p : Nat → Prop) (w w' : World) : Prop := w.heap.size ≤ w'.heap.size ∧ ∀ k, p k → k < w.heap.size → w'.heap[k]? = w.heap[k]?
theorem Kp.stay {g : Nat} {w w' : World} (h : Kp g w w') {p : Nat → Prop} (hp : ∀ k, p k → k ≠ g) : Stay p w w' := ⟨h.size, fun k hk hl => h.block k hl (fun e => hp k hk (by injection e))⟩
theorem Stay.of {p : Nat → Prop} {w w' : World} (h : Below w.heap.size w w') : Stay p w w' := ⟨h.size, fun k _ hl => h.block k hl⟩
theorem Stay.grown {p : Nat → Prop} {w w' : World} {row : Option Nat} (h : w.grownBy w' row) (hp : ∀ k, p k → some k ≠ row) : Stay p w w' := ⟨h.size, fun k hk hl => h.block k hl (hp k hk)⟩
theorem ReadsL.keep {w w' : World} {p : Nat → Prop} {B size n : Nat} {A : Option Addr} {xs : List Value} (h : ReadsL w p B size A n xs) (hb : Stay p w w') : ReadsL w' p B size A n xs := by
  refine ⟨⟨h.r.1, fun h0 => ?_⟩, h.l⟩
  obtain ⟨ad, e, hB, hc⟩ := h.r.2 h0
  refine ⟨ad, e, hB, fun j u hu => ?_⟩
  have hcell := hc j u hu
  have hlt := block_lt_of_cell hcell
  rw [World.cell?_of_block (hb.2 _ (by rw [block_of_add]; exact h.l h0 ad e) hlt)]
  exact hcell
theorem ReadsL.up {w : World} {p : Nat → Prop} {B B' size n : Nat} {A : Option Addr} {xs : List Value} (h : ReadsL w p B size A n xs) (hB : B ≤ B') : ReadsL w p B' size A n xs := ⟨h.r.more hB, h.l⟩
/-- an expression in memory, all of it in blocks that meet p -/
inductive ExIn (w : World) (p : Nat → Prop) (B : Nat) : Ex → List Value → Prop
  | mk {e : Ex} {A : Option Addr} {c : Nat} {A' : Option Addr} {c' : Nat} {cs : List Value} (hn : e.nm.size ≤ maxLen) (hs : e.v.s.size ≤ maxLen) (hl : e.v.l.length ≤ maxLen) (ha : e.ar.length ≤ maxLen)
      (hx : ReadsL w p B 1 A e.v.l.length (numV .i64 e.v.l)) (hr : ReadsL w p B 8 A' e.ar.length cs) (hi : ∀ i (h : i < e.ar.length), ExIn w p B e.ar[i] ((cs.drop (i * 8)).take 8)) : ExIn w p B e (exCells e A c A' c')
theorem ExIn.at_ {w : World} {p : Nat → Prop} {B : Nat} {e : Ex} {cs : List Value} (h : ExIn w p B e cs) : ExAt w B e cs := by
  induction h with
  | mk hn hs hl ha hx hr hi ih => exact .mk hn hs hl ha hx.r hr.r ih
theorem ExIn.keep {w w' : World} {p : Nat → Prop} {B : Nat} {e : Ex} {cs : List Value} (h : ExIn w p B e cs) (hb : Stay p w w') : ExIn w' p B e cs := by
  induction h with
  | mk hn hs hl ha hx hr hi ih => exact .mk hn hs hl ha (hx.keep hb) (hr.keep hb) ih
theorem ExIn.up {w : World} {p : Nat → Prop} {B B' : Nat} {e : Ex} {cs : List Value} (h : ExIn w p B e cs) (hB : B ≤ B') : ExIn w p B' e cs := by
  induction h with
  | mk hn hs hl ha hx hr hi ih => exact .mk hn hs hl ha (hx.up hB) (hr.up hB) ih
theorem ExIn.imp {w : World} {p q : Nat → Prop} {B : Nat} {e : Ex} {cs : List Value} (h : ExIn w p B e cs) (hpq : ∀ k, p k → k < B → q k) : ExIn w q B e cs := by
  have hR : ∀ {size n : Nat} {A : Option Addr} {xs : List Value}, ReadsL w p B size A n xs → ReadsL w q B size A n xs := fun hR => ⟨hR.r, fun h0 ad e => by
    obtain ⟨ad', e', hB, -⟩ := hR.r.2 h0
    rw [e] at e'
    injection e' with e'
    subst e'
    exact hpq _ (hR.l h0 ad e) hB⟩
  induction h with
  | mk hn hs hl ha hx hr hi ih => exact .mk hn hs hl ha (hR hx) (hR hr) ih
/-- the cells of the word at hand -/
def curAt (s : ByteArray) (i : Nat) : Nat := match tokAt s.data.toList i with
  | some t => t.at_
  | none => s.size
def curTx (s : ByteArray) (i : Nat) : List UInt8 := match tokAt s.data.toList i with
  | some t => t.tx
  | none => []
def curTouch (s : ByteArray) (i : Nat) : Bool := match tokAt s.data.toList i with
  | some t => t.touch
  | none => false
def tb (l : List UInt8) : ByteArray := ⟨l.toArray⟩
theorem tb_data (l : List UInt8) : (tb l).data.toList = l := by simp [tb]
theorem tb_size (l : List UInt8) : (tb l).size = l.length := by simp [tb, ByteArray.size]
theorem tb_of (s : ByteArray) : tb s.data.toList = s := by unfold tb; exact ByteArray.ext (by simp)
theorem tb_inj {a b : List UInt8} (h : tb a = tb b) : a = b := by rw [← tb_data a, h, tb_data]
/-- the parser at a place -/
structure PaAt (w : World) (g : Nat) (s : ByteArray) (i : Nat) : Prop where
  b : Blk w g 65 #[.string s, .int .i64 (curAt s i : Nat), .string (tb (curTx s i)), .bool (curTouch s i)]
  i : i ≤ s.size
  s : s.size ≤ 4000
theorem data_len (s : ByteArray) : s.data.toList.length = s.size := by rw [Array.length_toList]; rfl
theorem cur_le (s : ByteArray) {i : Nat} (hi : i ≤ s.size) : i ≤ curAt s i ∧ curAt s i + (curTx s i).length ≤ s.size := by
  unfold curAt curTx
  cases h : tokAt s.data.toList i with
  | none => exact ⟨hi, by simp⟩
  | some t =>
    have := tok_in h
    rw [data_len] at this
    dsimp only
    omega
/-- what a method of the parser does -/
def PRet (w : World) (g : Nat) (s : ByteArray) (r : Res) (e : Ending) (w' : World) : Prop := match r with
  | .ok es l' => ∃ x i cs, es = [x] ∧ l' = wordsOf s.data.toList i ∧ e = .returned (.agg cs.toArray) ∧ ExIn w' (fun b => w.heap.size ≤ b) w'.heap.size x cs ∧ PaAt w' g s i ∧ Kp g w w'
  | .err k => e = .panicked [{ v := .iface 61 (.agg #[.int .i64 (k : Nat)]), recovered := false }] ∧ Kp g w w'
end Go.Proofs.YtobanldeicclmaaGreatDoor
namespace Go.Proofs.YtobanldeicclmaaGreatDoor
open Go.RowKit Vtx
theorem isW_cur (s : ByteArray) (i : Nat) {word : List UInt8} (h : word ≠ []) : isW (wordsOf s.data.toList i) word = (decide (curTx s i = word) && !curTouch s i) := by
  unfold curTx curTouch
  rw [words_eq]
  cases tokAt s.data.toList i with
  | none => show false = (decide (([] : List UInt8) = word) && !false); rw [decide_eq_false (fun e => h e.symm)]; rfl
  | some t => simp [isW, Bool.and_comm]
theorem place_cur (s : ByteArray) (i : Nat) : placeF s.data.toList.length (wordsOf s.data.toList i) = curAt s i := by
  unfold curAt
  rw [words_eq]
  cases tokAt s.data.toList i with
  | none => exact data_len s
  | some t => rfl
theorem tb_eq (a b : List UInt8) : ((tb a).toList == (tb b).toList) = decide (a = b) := by
  by_cases h : a = b
  · rw [decide_eq_true h]; exact strEq_true (by rw [h])
  · rw [decide_eq_false h]; exact strEq_false (fun e => h (tb_inj e))
theorem is_any (g : Nat) (s : ByteArray) (i : Nat) (w : World) (h : PaAt w g s i) (word : List UInt8) (hw : word ≠ []) :
    Calls Tryz.prog 84 #[.pointer (some ⟨g, 0, none⟩), .string (tb word)] w fun e w' => e = .returned (.bool (isW (wordsOf s.data.toList i) word)) ∧ w = w' := by
  have c2 := h.b.cell 2
  have c3 := h.b.cell 3
  have HR := Lib.hid (isW_cur s i hw)
  obtain ⟨t, ht⟩ : ∃ t, tb word = t := ⟨_, rfl⟩
  obtain ⟨u, hu⟩ : ∃ u, tb (curTx s i) = u := ⟨_, rfl⟩
  have hb : (u.toList == t.toList) = decide (curTx s i = word) := by rw [← ht, ← hu]; exact tb_eq _ _
  obtain ⟨b, hbb⟩ : ∃ b, decide (curTx s i = word) = b := ⟨_, rfl⟩
  obtain ⟨d, hdd⟩ : ∃ d, curTouch s i = d := ⟨_, rfl⟩
  rw [hbb] at hb
  rw [ht]
  have HR := Lib.hid (HR.out.trans (by rw [hbb, hdd]))
  rw [hu, hdd] at c2 c3
  change w.cell? ⟨g, 2, none⟩ = some (.string u) at c2
  change w.cell? ⟨g, 3, none⟩ = some (.bool d) at c3
  clear hbb hdd ht hu h
  cases b
  · go_enter Tryz.func84, Tryz.ntmps84
    go_wp2_with fail
    go_ret
    exact ⟨ret_bool (by rw [HR.out]; rfl), rfl⟩
  · go_enter Tryz.func84, Tryz.ntmps84
    go_wp2_with fail
    go_ret
    exact ⟨ret_bool (by rw [HR.out]; rfl), rfl⟩
/-- what the parser throws -/
abbrev stopE (k : Nat) : Ending := .panicked [{ v := .iface 61 (.agg #[.int .i64 (k : Nat)]), recovered := false }]
theorem wrong_any (g : Nat) (s : ByteArray) (i : Nat) (w : World) (h : PaAt w g s i) :
    Calls Tryz.prog 32 #[.pointer (some ⟨g, 0, none⟩)] w fun e w' => e = stopE (curAt s i) ∧ w = w' := by
  have c1 : w.cell? ⟨g, 1, none⟩ = some (.int .i64 (curAt s i : Nat)) := h.b.cell 1
  clear h
  go_enter Tryz.func32, Tryz.ntmps32
  go_wp2
  exact ⟨rfl, rfl, rfl⟩
end Go.Proofs.YtobanldeicclmaaGreatDoor
namespace Go.Proofs.YtobanldeicclmaaGreatDoor
open Go.RowKit Vtx
theorem cur_some {s : ByteArray} {E J : Nat} (hJ : J = E + spanP blankB (s.data.toList.drop E)) (h : J < s.size) : curAt s E = J ∧ curTx s E = (s.data.toList.drop J).take (wordLen (s.data.toList.drop J)) ∧
    curTouch s E = (decide (J = E) && decide (0 < E) && wordB (s.data.toList.getD (E - 1) 0) && wordB (s.data.toList.getD E 0)) := by
  have e : tokAt s.data.toList E = some ⟨J, (s.data.toList.drop J).take (wordLen (s.data.toList.drop J)), (decide (J = E) && decide (0 < E) && wordB (s.data.toList.getD (E - 1) 0) && wordB (s.data.toList.getD E 0))⟩ := by
    unfold tokAt
    rw [← hJ, if_pos (by rw [data_len]; exact h), show decide (spanP blankB (s.data.toList.drop E) = 0) = decide (J = E) from decide_eq_decide.2 (by omega)]
  unfold curAt curTx curTouch
  rw [e]
  exact ⟨rfl, rfl, rfl⟩
theorem cur_none {s : ByteArray} {E J : Nat} (hJ : J = E + spanP blankB (s.data.toList.drop E)) (h : ¬ J < s.size) : curAt s E = s.size ∧ curTx s E = [] ∧ curTouch s E = false := by
  have e : tokAt s.data.toList E = none := by
    unfold tokAt
    rw [← hJ, if_neg (by rw [data_len]; exact h)]
  unfold curAt curTx curTouch
  rw [e]
  exact ⟨rfl, rfl, rfl⟩
theorem getD_ba {s : ByteArray} {i : Nat} (h : i < s.size) : s.data.toList.getD i 0 = s[i] := by
  rw [List.getD_eq_getElem?_getD, List.getElem?_eq_getElem (by rw [data_len]; exact h)]
  rfl
theorem ext_tb (s : ByteArray) (J L : Nat) : s.extract J (J + L) = tb ((s.data.toList.drop J).take L) := by
  unfold tb
  refine ByteArray.ext (Array.toList_inj.1 ?_)
  rw [Lib.extract_data]
  simp
theorem blk3 {w : World} {g : Nat} {T : TypeId} {a b c d : Value} (h : Blk w g T #[a, b, c, d]) (u : Value) : Blk (w.setCell ⟨g, 3, none⟩ u) g T #[a, b, c, u] := h.set_ 3 u
theorem blk1 {w : World} {g : Nat} {T : TypeId} {a b c d : Value} (h : Blk w g T #[a, b, c, d]) (u : Value) : Blk (w.setCell ⟨g, 1, none⟩ u) g T #[a, u, c, d] := h.set_ 1 u
theorem blk2 {w : World} {g : Nat} {T : TypeId} {a b c d : Value} (h : Blk w g T #[a, b, c, d]) (u : Value) : Blk (w.setCell ⟨g, 2, none⟩ u) g T #[a, b, u, d] := h.set_ 2 u
theorem kp_drew {g : Nat} {w w' : World} (h : Kp g w w') (n : Nat) : Kp g w (w'.drewN n) := h.trans (Kp.of ((Below.refl _ _).drewN n))
set_option maxHeartbeats 2000000 in
set_option maxRecDepth 100000 in
theorem next_any (g : Nat) (s : ByteArray) (i : Nat) (w : World) (h : PaAt w g s i) :
    Calls Tryz.prog 30 #[.pointer (some ⟨g, 0, none⟩)] w fun e w' => e = .returned (.tuple #[]) ∧ PaAt w' g s (curAt s i + (curTx s i).length) ∧ Kp g w w' := by
  have hcl := cur_le s h.i
  have hs := h.s
  have HB := Lib.hid h.b
  obtain ⟨u, hu⟩ : ∃ u, tb (curTx s i) = u := ⟨_, rfl⟩
  have hus : u.size = (curTx s i).length := by rw [← hu, tb_size]
  rw [hu] at HB
  obtain ⟨A, hA⟩ : ∃ A, curAt s i = A := ⟨_, rfl⟩
  rw [hA] at HB hcl ⊢
  rw [← hus] at hcl ⊢
  obtain ⟨E, hE⟩ : ∃ E, A + u.size = E := ⟨_, rfl⟩
  rw [hE] at hcl ⊢
  obtain ⟨d0, hd0⟩ : ∃ d, curTouch s i = d := ⟨_, rfl⟩
  rw [hd0] at HB
  obtain ⟨J, hJ⟩ : ∃ J, J = E + spanP blankB (s.data.toList.drop E) := ⟨_, rfl⟩
  have hJle : J ≤ s.size := by
    have h1 := span_le blankB (s.data.toList.drop E)
    rw [List.length_drop, data_len] at h1
    omega
  obtain ⟨T, hT⟩ : ∃ T, curTouch s E = T := ⟨_, rfl⟩
  have HJ := Lib.hid hJ
  have HT := Lib.hid hT
  have c0 : w.cell? ⟨g, 0, none⟩ = some (.string s) := HB.out.cell 0
  have c1 : w.cell? ⟨g, 1, none⟩ = some (.int .i64 (A : Nat)) := HB.out.cell 1
  have c2 : w.cell? ⟨g, 2, none⟩ = some (.string u) := HB.out.cell 2
  have hEi : ((A : Nat) : Int) + (u.size : Nat) = (E : Nat) := by omega
  have hEw : IntKind.i64.wrap (((A : Nat) : Int) + (u.size : Nat)) = (E : Nat) := by rw [hEi]; exact IntWalk.i64_in _ (by omega)
  clear hJ hT hd0 hA hu hus h hE
  go_enter Tryz.func30, Tryz.ntmps30
  go_upto_region 0 with (fail)
  go_quiet (fail)
  obtain ⟨W, hW⟩ : ∃ W, W = w.drewN nq := ⟨_, rfl⟩
  have HKW := Lib.hid (show Kp g w W by rw [hW]; exact kp_drew (kp_refl g w) nq)
  have HBW := Lib.hid (show Blk W g 65 #[.string s, .int .i64 (A : Nat), .string u, .bool d0] by rw [hW]; exact HB.out.drewN nq)
  rw [← hW]
  clear c0 c1 c2 hW hEi hEw
  have c0 : W.cell? ⟨g, 0, none⟩ = some (.string s) := HBW.out.cell 0
  have z3 : W.frozen? ⟨g, 3, none⟩ = false := HBW.out.frozen 3
  have c3 : W.cell? ⟨g, 3, none⟩ = some (.bool d0) := HBW.out.cell 3
  go_wp2_with fail
  go_loop [3] (fun x => ∃ n : Nat, E ≤ n ∧ n ≤ s.size ∧ x = .int .i64 n ∧ Hid (J = n + spanP blankB (s.data.toList.drop n))) (fun x => s.size - (intOf x).toNat)
  case atStart => exact ⟨E, Nat.le_refl _, hcl.2, rfl, HJ⟩
  case round =>
    obtain ⟨n, hEn, hn, rfl, HR⟩ := hrel
    by_cases hlt : n < s.size
    · have HLT := Lib.hid hlt
      by_cases h32 : s[n].toNat = 32
      · have HG := Lib.hid (span_step hlt (show blankB s[n] = true from decide_eq_true ((toNat_eq s[n] 32 (by decide)).2 h32)) HR.out)
        have b1 : ((s[n].toNat : Int) == 32) = true := by simp; omega
        clear h32
        go_wp2_with fail
        go_round
        case rel => exact ⟨n + 1, by omega, HLT.out, by go_num, HG⟩
        case measure =>
          have := HLT.out
          simp [intOf]
          omega
      · have hJn := span_last hlt (show blankB s[n] = false from decide_eq_false (fun e => h32 ((toNat_eq s[n] 32 (by decide)).1 e))) HR.out
        have b1 : ((s[n].toNat : Int) == 32) = false := by simp; omega
        obtain ⟨hcA, hcT, hcU⟩ := cur_some HJ.out (by rw [hJn]; exact hlt)
        subst hJn
        have HTV := Lib.hid (HT.out.symm.trans hcU)
        have HCA := Lib.hid (And.intro hcA hcT)
        clear h32 hcA hcT hcU
        go_upto_region 4 with (fail)
        go_cut [3] (fun x wc => x = .int .i64 (J : Nat) ∧ wc = W.setCell ⟨g, 3, none⟩ (.bool T))
        case first =>
          by_cases hJE : J = E
          · subst hJE
            have hbe : (((J : Nat) : Int) == ((J : Nat) : Int)) = true := by simp
            by_cases hE0 : 0 < J
            · have hi0 : J - 1 < s.size := by omega
              obtain ⟨b1, hb1⟩ : ∃ b, wordB s[J - 1] = b := ⟨_, rfl⟩
              obtain ⟨b2, hb2⟩ : ∃ b, wordB (s[J]'hlt) = b := ⟨_, rfl⟩
              have HTT := Lib.hid (show T = (b1 && b2) by rw [HTV.out, getD_ba hi0, getD_ba hlt, hb1, hb2, decide_eq_true hE0]; simp)
              have HW1 := Lib.hid (show Calls Tryz.prog 52 #[.int .u8 (s[J - 1].toNat : Nat)] W fun e w'' => e = .returned (.bool b1) ∧ W = w'' from by
                exact (isWordByte_any s[J - 1] W).mono fun e w'' ⟨he, hw⟩ => ⟨he.trans (congrArg (fun x => Ending.returned (.bool x)) hb1), hw⟩)
              have HW2 := Lib.hid (show Calls Tryz.prog 52 #[.int .u8 ((s[J]'hlt).toNat : Nat)] W fun e w'' => e = .returned (.bool b2) ∧ W = w'' from by
                exact (isWordByte_any (s[J]'hlt) W).mono fun e w'' ⟨he, hw⟩ => ⟨he.trans (congrArg (fun x => Ending.returned (.bool x)) hb2), hw⟩)
              have hE1 : ((J : Nat) : Int) - 1 = ((J - 1 : Nat) : Int) := by omega
              have hE1w : IntKind.i64.wrap (((J : Nat) : Int) - 1) = ((J - 1 : Nat) : Int) := by rw [hE1]; exact IntWalk.i64_in _ (by omega)
              have hE0i : (0 : Int) < ((J : Nat) : Int) := by omega
              clear hb1 hb2 hE1
              cases b1
              · go_wp2_with (go_at_call 52; (with_reducible refine HW1.out.mono ?_); rintro e w1 ⟨rfl, rfl⟩)
                go_meet
                exact ⟨rfl, by rw [HTT.out]; rfl⟩
              · cases b2
                · go_wp2_with (first | (go_at_call 52; (with_reducible refine HW1.out.mono ?_); rintro e w1 ⟨rfl, rfl⟩) | (go_at_call 52; (with_reducible refine HW2.out.mono ?_); rintro e w1 ⟨rfl, rfl⟩))
                  go_meet
                  exact ⟨rfl, by rw [HTT.out]; rfl⟩
                · go_wp2_with (first | (go_at_call 52; (with_reducible refine HW1.out.mono ?_); rintro e w1 ⟨rfl, rfl⟩) | (go_at_call 52; (with_reducible refine HW2.out.mono ?_); rintro e w1 ⟨rfl, rfl⟩))
                  go_meet
                  exact ⟨rfl, by rw [HTT.out]; rfl⟩
            · have HTT := Lib.hid (show T = false by rw [HTV.out, decide_eq_false hE0]; simp)
              have hJ0 : ¬ (0 : Int) < ((J : Nat) : Int) := by omega
              go_wp2_with fail
              go_meet
              exact ⟨rfl, by rw [HTT.out]⟩
          · have HTT := Lib.hid (show T = false by rw [HTV.out, decide_eq_false hJE]; simp)
            have hbe : (((J : Nat) : Int) == ((E : Nat) : Int)) = false := by simp; omega
            have hbe2 : (J == E) = false := by simp; omega
            go_wp2_with fail
            go_meet
            exact ⟨rfl, by rw [HTT.out]⟩
        case rest =>
        obtain ⟨rfl, rfl⟩ := hcut
        have B4 := blk3 HBW.out (.bool T)
        obtain ⟨W4, hW4⟩ : ∃ W4, W4 = W.setCell ⟨g, 3, none⟩ (.bool T) := ⟨_, rfl⟩
        have HK4 := Lib.hid (show Kp g w W4 by rw [hW4]; exact HKW.out.set 3 _)
        rw [← hW4] at B4
        have HB4 := Lib.hid B4
        rw [← hW4]
        clear B4 hW4 c0 z3 c3
        have c0 : W4.cell? ⟨g, 0, none⟩ = some (.string s) := HB4.out.cell 0
        have c1 : W4.cell? ⟨g, 1, none⟩ = some (.int .i64 (A : Nat)) := HB4.out.cell 1
        have c2 : W4.cell? ⟨g, 2, none⟩ = some (.string u) := HB4.out.cell 2
        have z1 : W4.frozen? ⟨g, 1, none⟩ = false := HB4.out.frozen 1
        have z2 : W4.frozen? ⟨g, 2, none⟩ = false := HB4.out.frozen 2
        have hL := wordLen_le (s.data.toList.drop J)
        rw [List.length_drop, data_len] at hL
        obtain ⟨N, hN⟩ : ∃ N, J + wordLen (s.data.toList.drop J) = N := ⟨_, rfl⟩
        have HN := Lib.hid hN
        have hN1 : (0 : Int) ≤ ((J : Nat) : Int) := by omega
        have hN2 : ((J : Nat) : Int) ≤ ((N : Nat) : Int) := by omega
        have hN3 : ((N : Nat) : Int) ≤ ((s.size : Nat) : Int) := by omega
        have hN4 : J ≤ N := by omega
        have hN5 : N ≤ s.size := by omega
        have hlti : ((J : Nat) : Int) < ((s.size : Nat) : Int) := by omega
        have HWE := Lib.hid (fun (w' : World) (hc : w'.cell? ⟨g, 0, none⟩ = some (.string s)) => (show Calls Tryz.prog 53 #[.pointer (some ⟨g, 0, none⟩), .int .i64 (J : Nat)] w' fun e w'' => e = .returned (.int .i64 (N : Nat)) ∧ w' = w'' from by
          have h := wordEnd_any g s J w' hc hlt hs
          rwa [hN] at h))
        clear hL hN
        go_upto_region 7 with (fail)
        obtain ⟨W5, hW5⟩ : ∃ W5, W5 = (W4.setCell ⟨g, 1, none⟩ (.int .i64 (J : Nat))).setCell ⟨g, 2, none⟩ (.string ⟨#[]⟩) := ⟨_, rfl⟩
        have HB5 := Lib.hid (show Blk W5 g 65 #[.string s, .int .i64 (J : Nat), .string ⟨#[]⟩, .bool T] by rw [hW5]; exact blk2 (blk1 HB4.out _) _)
        have HK5 := Lib.hid (show Kp g w W5 by rw [hW5]; exact (HK4.out.set 1 _).set 2 _)
        rw [← hW5]
        clear hW5 c0 c1 c2 z1 z2
        have c0 : W5.cell? ⟨g, 0, none⟩ = some (.string s) := HB5.out.cell 0
        have c2 : W5.cell? ⟨g, 2, none⟩ = some (.string ⟨#[]⟩) := HB5.out.cell 2
        have z2 : W5.frozen? ⟨g, 2, none⟩ = false := HB5.out.frozen 2
        go_region_with (go_at_call 53; (with_reducible refine (HWE.out _ (by simpa using c0)).mono ?_); rintro e w1 ⟨rfl, rfl⟩)
        all_goals
          go_wp2_with fail
          go_end0
          refine ⟨rfl, ⟨?_, hcl.2, hs⟩, (HK5.out.set 2 _).trans (Kp.of (Below.refl _ _).drew)⟩
          rw [HCA.out.1, HCA.out.2, HT.out, ← ext_tb, HN.out]
          exact (blk2 HB5.out _).drew
    · have hJn := span_out hlt HR.out
      obtain ⟨hcA, hcT, hcU⟩ := cur_none HJ.out (by rw [hJn]; exact hlt)
      have hns : n = s.size := by omega
      subst hJn
      have HTF := Lib.hid (HT.out.symm.trans hcU)
      have HCA := Lib.hid (And.intro (hcA.trans hns.symm) hcT)
      have HNS := Lib.hid hns
      have hlti : ¬ ((J : Nat) : Int) < ((s.size : Nat) : Int) := by omega
      clear hcA hcT hcU hns
      go_upto_region 4 with (fail)
      go_cut [3] (fun x wc => x = .int .i64 (J : Nat) ∧ wc = W.setCell ⟨g, 3, none⟩ (.bool T))
      case first =>
        by_cases hJE : J = E
        · subst hJE
          have hbe : (((J : Nat) : Int) == ((J : Nat) : Int)) = true := by simp
          by_cases hE0 : 0 < J
          · have hE0i : (0 : Int) < ((J : Nat) : Int) := by omega
            go_wp2_with fail
            go_meet
            exact ⟨rfl, by rw [HTF.out]⟩
          · have hJ0 : ¬ (0 : Int) < ((J : Nat) : Int) := by omega
            go_wp2_with fail
            go_meet
            exact ⟨rfl, by rw [HTF.out]⟩
        · have hbe : (((J : Nat) : Int) == ((E : Nat) : Int)) = false := by simp; omega
          have hbe2 : (J == E) = false := by simp; omega
          go_wp2_with fail
          go_meet
          exact ⟨rfl, by rw [HTF.out]⟩
      case rest =>
      obtain ⟨rfl, rfl⟩ := hcut
      have B4 := blk3 HBW.out (.bool T)
      obtain ⟨W4, hW4⟩ : ∃ W4, W4 = W.setCell ⟨g, 3, none⟩ (.bool T) := ⟨_, rfl⟩
      have HK4 := Lib.hid (show Kp g w W4 by rw [hW4]; exact HKW.out.set 3 _)
      rw [← hW4] at B4
      have HB4 := Lib.hid B4
      rw [← hW4]
      clear B4 hW4 c0 z3 c3
      have c0 : W4.cell? ⟨g, 0, none⟩ = some (.string s) := HB4.out.cell 0
      have c1 : W4.cell? ⟨g, 1, none⟩ = some (.int .i64 (A : Nat)) := HB4.out.cell 1
      have c2 : W4.cell? ⟨g, 2, none⟩ = some (.string u) := HB4.out.cell 2
      have z1 : W4.frozen? ⟨g, 1, none⟩ = false := HB4.out.frozen 1
      have z2 : W4.frozen? ⟨g, 2, none⟩ = false := HB4.out.frozen 2
      go_wp2_with fail
      go_end0
      refine ⟨rfl, ⟨?_, hcl.2, hs⟩, (HK4.out.set 1 _).set 2 _⟩
      rw [HCA.out.1, HCA.out.2, HT.out]
      exact blk2 (blk1 HB4.out _) _
theorem take_any (g : Nat) (s : ByteArray) (i : Nat) (w : World) (h : PaAt w g s i) (word : List UInt8) (hw : word ≠ []) :
    Calls Tryz.prog 169 #[.pointer (some ⟨g, 0, none⟩), .string (tb word)] w fun e w' => if isW (wordsOf s.data.toList i) word = true then e = .returned (.tuple #[]) ∧ PaAt w' g s (curAt s i + (curTx s i).length) ∧ Kp g w w' else e = stopE (curAt s i) ∧ w = w' := by
  obtain ⟨b, hb⟩ : ∃ b, isW (wordsOf s.data.toList i) word = b := ⟨_, rfl⟩
  have HI := Lib.hid (is_any g s i w h word hw)
  have HN := Lib.hid (next_any g s i w h)
  have HW := Lib.hid (wrong_any g s i w h)
  rw [hb] at HI ⊢
  clear hb
  cases b
  · go_enter Tryz.func169, Tryz.ntmps169
    go_wp2_with (first | (go_at_call 84; (with_reducible refine HI.out.mono ?_); rintro e w1 ⟨rfl, rfl⟩) | (go_at_call 32; (with_reducible refine HW.out.mono ?_); rintro e w1 ⟨rfl, rfl⟩))
    exact ⟨rfl, rfl, rfl⟩
  · go_enter Tryz.func169, Tryz.ntmps169
    go_wp2_with (first | (go_at_call 84; (with_reducible refine HI.out.mono ?_); rintro e w1 ⟨rfl, rfl⟩) | (go_at_call 30; (with_reducible refine HN.out.mono ?_); rintro e w1 ⟨rfl, h1, h2⟩))
    go_end0
    exact ⟨rfl, h1, h2⟩
end Go.Proofs.YtobanldeicclmaaGreatDoor
namespace Go.Proofs.YtobanldeicclmaaGreatDoor
open Go.RowKit Vtx
theorem operation_any (o : Int) (A : Option Addr) (n : Nat) (c : Nat) (w : World) :
    Calls Tryz.prog 85 #[.int .i64 o, .slice A n c] w fun e w' => e = .returned (.agg #[.int .i64 4, .int .i64 o, .string ⟨#[]⟩, .int .i64 0, .int .i64 0, .string ⟨#[]⟩, .slice none 0 0, .slice A n c]) ∧ Below w.heap.size w w' := by
  go_enter Tryz.func85, Tryz.ntmps85
  go_wp2
  exact bodyPost_ret (v := .agg #[.int .i64 4, .int .i64 o, .string ⟨#[]⟩, .int .i64 0, .int .i64 0, .string ⟨#[]⟩, .slice none 0 0, .slice A n c]) (by simp [results, Tryz.results85, go_sem]) rfl ⟨rfl, (Below.refl _ w).alloc (Nat.le_refl _) _⟩
theorem constant_any (k m : Int) (s : ByteArray) (A : Option Addr) (n c : Nat) (w : World) :
    Calls Tryz.prog 161 #[.agg #[.int .i64 k, .int .i64 m, .string s, .slice A n c]] w fun e w' => e = .returned (.agg #[.int .i64 1, .int .i64 0, .string ⟨#[]⟩, .int .i64 k, .int .i64 m, .string s, .slice A n c, .slice none 0 0]) ∧ Below w.heap.size w w' := by
  go_enter Tryz.func161, Tryz.ntmps161
  go_wp2
  exact bodyPost_ret (v := .agg #[.int .i64 1, .int .i64 0, .string ⟨#[]⟩, .int .i64 k, .int .i64 m, .string s, .slice A n c, .slice none 0 0]) (by simp [results, Tryz.results161, go_sem]) rfl ⟨rfl, ((Below.refl _ w).alloc (Nat.le_refl _) _).alloc (by simp) _⟩
/-- the world holds, below the parser, what Read needs -/
def TM (w : World) (g : Nat) : Prop := ∃ w0 : World, Tab w0 ∧ Mx w0 ∧ w0.heap.size ≤ g ∧ Below w0.heap.size w0 w
theorem TM.kp {w w' : World} {g : Nat} (h : TM w g) (hk : Kp g w w') : TM w' g := by
  obtain ⟨w0, h1, h2, h3, h4⟩ := h
  exact ⟨w0, h1, h2, h3, h4.trans (hk.below h3 h4.size)⟩
theorem TM.tab {w : World} {g : Nat} (h : TM w g) : Tab w ∧ Mx w := by
  obtain ⟨w0, h1, h2, h3, h4⟩ := h
  exact ⟨h1.below h4, h2.below h4⟩
def PSpec (F : FuncId) (nt : NT) (s : ByteArray) (L : List Tok) : Prop := ∀ g i w, PaAt w g s i → TM w g → wordsOf s.data.toList i = L → Calls Tryz.prog F #[.pointer (some ⟨g, 0, none⟩)] w fun e w' => PRet w g s (Pz s.data.toList.length nt [] L) e w'
end Go.Proofs.YtobanldeicclmaaGreatDoor
namespace Go.Proofs.YtobanldeicclmaaGreatDoor
open Go.RowKit Vtx
theorem PaAt.kp {w w' : World} {g i : Nat} {s : ByteArray} (h : PaAt w g s i) (hb : w'.heap[g]? = w.heap[g]?) : PaAt w' g s i := ⟨by unfold Blk; rw [hb]; exact h.b, h.i, h.s⟩
theorem PaAt.alloc {w : World} {g i : Nat} {s : ByteArray} (h : PaAt w g s i) (o : Obj) : PaAt (w.alloc o) g s i := ⟨h.b.alloc o, h.i, h.s⟩
theorem PaAt.below {w w' : World} {g i : Nat} {s : ByteArray} (h : PaAt w g s i) (hb : Below w.heap.size w w') : PaAt w' g s i := ⟨h.b.below hb h.b.lt, h.i, h.s⟩
theorem own_kp {w w' : World} {B size n g : Nat} {e : TypeId} {v : Value} {xs : List Value} (h : w.ownsRow B e size v n xs) (hb : Kp g w w') (hg : g < B) : w'.ownsRow B e size v n xs := by
  refine ⟨h.1, h.2.imp id ?_⟩
  rintro ⟨g', cap, cur, e0, e1, e2, e3⟩
  have hlt : g' < w.heap.size := (h.lt g' (by rw [e0]; rfl)).2
  exact ⟨g', cap, cur, e0, e1, by rw [hb.block g' hlt (fun e => by injection e with e; omega)]; exact e2, e3⟩
theorem own_new {w : World} {b B size : Nat} {e : TypeId} {cs : List Value} (h : Blk w b e cs.toArray) (hB : B ≤ b) (hs : cs.length = size) : w.ownsRow B e size (.slice (some ⟨b, 0, none⟩) 1 1) 1 cs :=
  ⟨by rw [hs, Nat.one_mul], .inr ⟨b, 1, cs.toArray, rfl, hB, h, Nat.le_refl _, by unfold maxLen; omega, by simp [hs], by rw [Nat.one_mul, ← hs]; simp⟩⟩
theorem exIn_len {w : World} {p : Nat → Prop} {B : Nat} {e : Ex} {cs : List Value} (h : ExIn w p B e cs) : cs.length = 8 := by
  cases h; rfl
theorem flat8 : ∀ (css : List (List Value)) (_ : ∀ c ∈ css, c.length = 8) (i : Nat) (h : i < css.length), (css.flatten.drop (i * 8)).take 8 = css[i]
  | c :: r, hl, 0, _ => by
    have := hl c (List.mem_cons_self ..)
    simp [← this]
  | c :: r, hl, i + 1, h => by
    have h1 := hl c (List.mem_cons_self ..)
    rw [List.flatten_cons, show (i + 1) * 8 = c.length + i * 8 by omega, ← List.drop_drop, List.drop_left]
    exact flat8 r (fun x hx => hl x (List.mem_cons_of_mem _ hx)) i (by simpa using h)
/-- expressions, each with its cells -/
structure ExsIn (w : World) (p : Nat → Prop) (es : List Ex) (css : List (List Value)) : Prop where
  len : es.length = css.length
  ex : ∀ j (h : j < es.length) (h' : j < css.length), ExIn w p w.heap.size es[j] css[j]
theorem ExsIn.keep {w w' : World} {p : Nat → Prop} {es : List Ex} {css : List (List Value)} (h : ExsIn w p es css) (hb : Stay p w w') : ExsIn w' p es css := ⟨h.len, fun j a b => ((h.ex j a b).keep hb).up hb.1⟩
theorem ExsIn.imp {w : World} {p q : Nat → Prop} {es : List Ex} {css : List (List Value)} (h : ExsIn w p es css) (hpq : ∀ k, p k → k < w.heap.size → q k) : ExsIn w q es css := ⟨h.len, fun j a b => (h.ex j a b).imp hpq⟩
theorem ExsIn.cells {w : World} {p : Nat → Prop} {es : List Ex} {css : List (List Value)} (h : ExsIn w p es css) : ∀ c ∈ css, c.length = 8 := fun c hc => by
  obtain ⟨j, hj, rfl⟩ := List.mem_iff_getElem.1 hc
  exact exIn_len (h.ex j (by rw [h.len]; exact hj) hj)
theorem ExsIn.snoc {w : World} {p : Nat → Prop} {es : List Ex} {css : List (List Value)} (h : ExsIn w p es css) {e : Ex} {cs : List Value} (he : ExIn w p w.heap.size e cs) : ExsIn w p (es ++ [e]) (css ++ [cs]) := by
  refine ⟨by simp [h.len], fun j a b => ?_⟩
  by_cases hj : j < es.length
  · rw [List.getElem_append_left hj, List.getElem_append_left (by rw [← h.len]; exact hj)]
    exact h.ex j hj _
  · have e1 : j = es.length := by simp at a; omega
    subst e1
    rw [List.getElem_append_right (Nat.le_refl _), List.getElem_append_right (by rw [h.len]; exact Nat.le_refl _)]
    simpa [h.len] using he
theorem ExsIn.one {w : World} {p : Nat → Prop} {e : Ex} {cs : List Value} (he : ExIn w p w.heap.size e cs) : ExsIn w p [e] [cs] := by
  have h0 : ExsIn w p [] [] := ⟨rfl, fun j a => by simp at a⟩
  exact h0.snoc he
/-- an operation on the row -/
theorem mkOp_in {w : World} {L B : Nat} {es : List Ex} {css : List (List Value)} {A : Option Addr} {c : Nat} (o : Int) (h : ExsIn w (fun b => L ≤ b) es css) (hL : L ≤ B) (ho : w.ownsRow B 27 8 (.slice A es.length c) es.length css.flatten) (hm : es.length ≤ maxLen) :
    ExIn w (fun b => L ≤ b) w.heap.size (mkOp o es) [.int .i64 4, .int .i64 o, .string ⟨#[]⟩, .int .i64 0, .int .i64 0, .string ⟨#[]⟩, .slice none 0 0, .slice A es.length c] := by
  have hA : ∀ ad, A = some ad → L ≤ ad.block := fun ad e => by
    subst e
    rcases ho.2 with ⟨h0, -⟩ | ⟨g', cap, cur, e0, e1, -⟩
    · cases h0
    · injection e0 with e0 _ _
      injection e0 with e0
      subst e0
      show L ≤ g'
      omega
  refine ExIn.mk (e := mkOp o es) (A := none) (c := 0) (A' := A) (c' := c) (cs := css.flatten) (show 0 ≤ maxLen from Nat.zero_le _) (show 0 ≤ maxLen from Nat.zero_le _) (show 0 ≤ maxLen from Nat.zero_le _) hm ⟨Reads.none_, fun _ ad e => by cases e⟩ ⟨Reads.of_own ho, fun _ => hA⟩ (fun i hi => ?_)
  have hi' : i < css.length := by rw [← h.len]; exact hi
  rw [flat8 css h.cells i hi']
  exact h.ex i hi hi'
theorem infoX : (Tryz.prog.info? 27).map (fun i => (i.zero, i.size, i.bytes)) = some (some (.agg #[.int .i64 0, .int .i64 0, .string ByteArray.empty, .int .i64 0, .int .i64 0, .string ByteArray.empty, .slice none 0 0, .slice none 0 0]), 8, 112) := by kernel_rfl
end Go.Proofs.YtobanldeicclmaaGreatDoor
