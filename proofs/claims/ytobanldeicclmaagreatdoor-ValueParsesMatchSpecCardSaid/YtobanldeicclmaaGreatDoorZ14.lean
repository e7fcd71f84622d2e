/- Lemmas for the claim: walks and plain laws. -/
import Derived.Test.YtobanldeicclmaaGreatDoorZ13
import Derived.Test.YtobanldeicclmaaGreatDoorZ6
import Derived.Test.YtobanldeicclmaaGreatDoorZ8
import Derived.Test.YtobanldeicclmaaGreatDoorZ12
import Derived.Test.YtobanldeicclmaaGreatDoorZ7
import Derived.Deep.RegionHeld3
import Derived.IntWalk
set_option maxHeartbeats 2000000
set_option maxRecDepth 100000
namespace Go.Proofs.YtobanldeicclmaaGreatDoor
open Go.RowKit Dig Vtx
theorem Px (s : ByteArray) (w : World) (hs : s.size ≤ 2000000) (hm : Mx w) :
  Calls Tryz.prog 171 #[.string s] w fun e w' => GV e w' w.heap.size s.data.toList ∧ Below w.heap.size w w' := by
 by_cases h : s.data.toList = []
 ·
  have hs2 : s = ⟨#[]⟩ := nV (by first | (rw [h]; done) | (rw [h]; rfl))
  subst hs2
  clear h hs hm
  go_enter Tryz.func171, Tryz.ntmps171
  go_wp2
  refine bodyPost_ret (v := .tuple #[.agg #[.int .i64 0, .int .i64 0, .string ⟨#[]⟩, .slice none 0 0], .bool false]) (by simp [results, Tryz.results171, go_sem]) rfl ⟨GV.plain 0 0 ⟨#[]⟩ false (by decide) (fun h => by first | rfl | cases h) (fun h => by first | rfl | cases h), ?_⟩
  first
   | exact (Below.refl _ _).alloc (Nat.le_refl _) _
   | exact ((Below.refl _ _).alloc (Nat.le_refl _) _).alloc (by simp) _
 by_cases h : s.data.toList = [45]
 ·
  have hs2 : s = ⟨#[45]⟩ := nV (by first | (rw [h]; done) | (rw [h]; rfl))
  subst hs2
  clear h hs hm
  go_enter Tryz.func171, Tryz.ntmps171
  go_wp2
  refine bodyPost_ret (v := .tuple #[.agg #[.int .i64 0, .int .i64 0, .string ⟨#[]⟩, .slice none 0 0], .bool true]) (by simp [results, Tryz.results171, go_sem]) rfl ⟨GV.plain 0 0 ⟨#[]⟩ true (by decide) (fun h => by first | rfl | cases h) (fun h => by first | rfl | cases h), ?_⟩
  first
   | exact (Below.refl _ _).alloc (Nat.le_refl _) _
   | exact ((Below.refl _ _).alloc (Nat.le_refl _) _).alloc (by simp) _
 by_cases h : s.data.toList = iP
 ·
  have hs2 : s = ⟨#[116, 114, 117, 101]⟩ := nV (by first | (rw [h]; done) | (rw [h]; rfl))
  subst hs2
  clear h hs hm
  go_enter Tryz.func171, Tryz.ntmps171
  go_wp2
  refine bodyPost_ret (v := .tuple #[.agg #[.int .i64 7, .int .i64 1, .string ⟨#[]⟩, .slice none 0 0], .bool true]) (by simp [results, Tryz.results171, go_sem]) rfl ⟨GV.plain 7 1 ⟨#[]⟩ true (by decide) (fun h => by first | rfl | cases h) (fun h => by first | rfl | cases h), ?_⟩
  first
   | exact (Below.refl _ _).alloc (Nat.le_refl _) _
   | exact ((Below.refl _ _).alloc (Nat.le_refl _) _).alloc (by simp) _
 by_cases h : s.data.toList = dV
 ·
  have hs2 : s = ⟨#[102, 97, 108, 115, 101]⟩ := nV (by first | (rw [h]; done) | (rw [h]; rfl))
  subst hs2
  clear h hs hm
  go_enter Tryz.func171, Tryz.ntmps171
  go_wp2
  refine bodyPost_ret (v := .tuple #[.agg #[.int .i64 7, .int .i64 0, .string ⟨#[]⟩, .slice none 0 0], .bool true]) (by simp [results, Tryz.results171, go_sem]) rfl ⟨GV.plain 7 0 ⟨#[]⟩ true (by decide) (fun h => by first | rfl | cases h) (fun h => by first | rfl | cases h), ?_⟩
  first
   | exact (Below.refl _ _).alloc (Nat.le_refl _) _
   | exact ((Below.refl _ _).alloc (Nat.le_refl _) _).alloc (by simp) _
 rename_i h1 h2 h3
 exact Pv s w hs hm ⟨by assumption, by assumption, by assumption, by assumption⟩
structure RV (e : Ending) (w : World) (B : Nat) (s : List UInt8) : Prop where
 ex : ∃ (x : Val) (A : Option Addr) (c : Nat) (f : Int), e = .returned (.tuple #[.agg #[.int .i64 x.k, .int .i64 x.n, .string x.s, .slice A x.l.length c], .int .i64 f]) ∧ Reads w w.heap.size 1 A x.l.length (dS .i64 x.l) ∧ (∀ ad, A = some ad → B ≤ ad.block) ∧ x.l.length ≤ 4000000 ∧ x.s.size ≤ 4000000 ∧
  (f = 0 → aV x = 0 ∧ showT x.k x.n x.s.data.toList x.l = s) ∧ (f ≠ 0 → f = 10 ∧ x = ⟨0, 0, ⟨#[]⟩, []⟩ ∧ ∀ v : Val, aV v = 0 → showT v.k v.n v.s.data.toList v.l ≠ s)
theorem NV {x v : Val} (h : (⟨x.k, x.n, x.s.data.toList, x.l⟩ : Q) = ⟨v.k, v.n, v.s.data.toList, v.l⟩) : x = v := by
 obtain ⟨k, n, s, l⟩ := x
 obtain ⟨k', n', s', l'⟩ := v
 injection h with h1 h2 h3 h4
 simp only at h1 h2 h3 h4
 have hs : s = s' := (nV h3).trans (nV (t := s') rfl).symm
 subst h1 h2 hs h4
 rfl
theorem VZ {s : List UInt8} (h : dA s = none) : ∀ v : Val, aV v = 0 → showT v.k v.n v.s.data.toList v.l ≠ s := fun v hv e => by
 have := rW (qG hv).1
 rw [e, h] at this
 cases this
theorem Ji {s : List UInt8} {x : Val} (h : dA s = some ⟨x.k, x.n, x.s.data.toList, x.l⟩) (hx : aV x ≠ 0 ∨ showT x.k x.n x.s.data.toList x.l ≠ s) : ∀ v : Val, aV v = 0 → showT v.k v.n v.s.data.toList v.l ≠ s := fun v hv e => by
 have := rW (qG hv).1
 rw [e, h] at this
 have := NV (Option.some.inj this)
 subst this
 rcases hx with hx | hx
 ·
  exact hx hv
 ·
  exact hx e
theorem BH (s : ByteArray) (w : World) (hs : s.size ≤ 2000000) (htab : Tab w) (hm : Mx w) :
  Calls Tryz.prog 160 #[.string s] w fun e w' => RV e w' w.heap.size s.data.toList ∧ Below w.heap.size w w' := by
 have HT := qh htab
 have HM := qh hm
 clear htab hm
 go_enter Tryz.func160, Tryz.ntmps160
 go_wp2_with fail
 obtain ⟨W, hW⟩ := au ((w.alloc (.cells #[.int .i64 0, .int .i64 0, .string ⟨#[]⟩, .slice none 0 0] 24 (0, 0))))
 have hbw : Below w.heap.size w W := by rw [hW]; exact ((Below.refl _ w).alloc (Nat.le_refl _) _)
 have B0 : af W (w.heap.size) 24 #[.int .i64 0, .int .i64 0, .string ⟨#[]⟩, .slice none 0 0] := by
  rw [hW]
  have := af.new w 24 #[.int .i64 0, .int .i64 0, .string ⟨#[]⟩, .slice none 0 0]
  exact this
 have hsz : W.heap.size = w.heap.size + 1 := by rw [hW]; simp
 rw [← hW]
 clear hW hsz
 refine (Px s W hs (HM.out.below hbw)).mono ?_
 rintro e w1 ⟨hg, hb1⟩
 obtain ⟨x, A, c, ok, rfl, hrd, hA, hl, hs1, q1, q2⟩ := hg.ex
 have hA2 : ∀ ad, A = some ad → w.heap.size < ad.block := fun ad h => Nat.lt_of_lt_of_le B0.lt (hA ad h)
 have oI := qh (And.intro hrd hA2)
 have HQ := qh (And.intro q1 q2)
 have B0 := B0.below hb1 B0.lt
 have hbw := hbw.trans (hb1.mono hbw.size)
 clear hg hb1 hrd hA q1 q2 hA2
 go_upto_region 2 with (fail)
 obtain ⟨W2, hW2⟩ := au (w1.alloc (.cells #[.int .i64 x.k, .int .i64 x.n, .string x.s, .slice A x.l.length c] 24 (0, 0)))
 have hb2 : Below w1.heap.size w1 W2 := hW2 ▸ (Below.refl _ w1).alloc (Nat.le_refl _) _
 have B3 : af W2 w1.heap.size 24 #[.int .i64 x.k, .int .i64 x.n, .string x.s, .slice A x.l.length c] := hW2 ▸ af.new w1 _ _
 rw [← hW2]
 have hlt := B0.lt
 have B0 := B0.below hb2 B0.lt
 have Tz := oI.out.1.below hb2
 have hsz2 : w1.heap.size ≤ W2.heap.size := hb2.size
 have hbw := hbw.trans (hb2.mono hbw.size)
 have oI := qh (And.intro (Tz.more hsz2) oI.out.2)
 clear hW2 hb2 Tz
 obtain ⟨aQ, eX, aS, eY, aT, fD, aU, fE⟩ := af.z4 B0
 obtain ⟨rf, ug, uh, sH⟩ := af.c4 B3
 cases ok
 ·
  have HN := qh (VZ (HQ.out.2 rfl))
  go_wp2
  obtain ⟨W9, dI, B9, di⟩ := bG B0 hbw (.int .i64 0) (.int .i64 0) (.string ⟨#[]⟩) (.slice none 0 0)
  rw [← dI]
  clear dI
  obtain ⟨iW, qc1, qc2, qc3⟩ := af.c4 B9
  refine bodyPost_ret (v := .tuple #[.agg #[.int .i64 0, .int .i64 0, .string ⟨#[]⟩, .slice none 0 0], .int .i64 10]) (by simp [results, Tryz.results160, go_sem, iW, qc1, qc2, qc3]) rfl ⟨⟨⟨⟨0, 0, ⟨#[]⟩, []⟩, none, 0, 10, rfl, Reads.none_, (fun _ h => by cases h), by simp, by decide, (fun h => absurd h (by decide)), (fun _ => ⟨rfl, rfl, HN.out⟩)⟩⟩, di⟩
 have HG := qh (HQ.out.1 rfl)
 go_wp2_with fail
 refine (check_any x A c W2.heap.size W2 (by unfold maxLen; omega) (by unfold maxLen; omega) oI.out.1 (Nat.le_refl _)).mono ?_
 rintro e w3 ⟨rfl, hb3⟩
 obtain ⟨f, hf⟩ := ae (aV x)
 have HF := qh hf
 rw [hf]
 have B0 := B0.below hb3 B0.lt
 have B3 := B3.below hb3 B3.lt
 have oI := qh (And.intro ((oI.out.1.below hb3).more hb3.size) oI.out.2)
 have hbw := hbw.trans (hb3.mono hbw.size)
 clear hf hb3 aQ eX aS eY aT fD aU fE rf ug uh sH
 obtain ⟨aQ, eX, aS, eY, aT, fD, aU, fE⟩ := af.z4 B0
 obtain ⟨rf, ug, uh, sH⟩ := af.c4 B3
 by_cases h0 : f = 0
 rotate_left
 ·
  have hne : (f != 0) = true := by simpa using h0
  have HN := qh (Ji HG.out (.inl (by rw [HF.out]; exact h0)))
  clear h0
  go_wp2
  obtain ⟨W9, dI, B9, di⟩ := bG B0 hbw (.int .i64 0) (.int .i64 0) (.string ⟨#[]⟩) (.slice none 0 0)
  rw [← dI]
  clear dI
  obtain ⟨iW, qc1, qc2, qc3⟩ := af.c4 B9
  refine bodyPost_ret (v := .tuple #[.agg #[.int .i64 0, .int .i64 0, .string ⟨#[]⟩, .slice none 0 0], .int .i64 10]) (by simp [results, Tryz.results160, go_sem, iW, qc1, qc2, qc3]) rfl ⟨⟨⟨⟨0, 0, ⟨#[]⟩, []⟩, none, 0, 10, rfl, Reads.none_, (fun _ h => by cases h), by simp, by decide, (fun h => absurd h (by decide)), (fun _ => ⟨rfl, rfl, HN.out⟩)⟩⟩, di⟩
 subst h0
 obtain ⟨hq, hl4, hs4⟩ := qG HF.out
 have HQ2 := qh hq
 clear hq
 go_wp2_with fail
 refine (Sv x.k x.n x.s x.l _ A c w3.heap.size w3 rfl HQ2.out (by omega) (by omega) oI.out.1 (Nat.le_refl _) (HT.out.below hbw) (HM.out.below hbw)).mono ?_
 rintro e w4 ⟨⟨t, rfl, ht⟩, hb4⟩
 have jf := qh ht
 have B0 := B0.below hb4 B0.lt
 have B3 := B3.below hb4 B3.lt
 have yI := qh (And.intro ((oI.out.1.below hb4).more hb4.size) oI.out.2)
 have hbw := hbw.trans (hb4.mono hbw.size)
 clear ht hb4 aQ eX aS eY aT fD aU fE rf ug uh sH
 obtain ⟨aQ, eX, aS, eY, aT, fD, aU, fE⟩ := af.z4 B0
 obtain ⟨rf, ug, uh, sH⟩ := af.c4 B3
 by_cases he : t = s
 ·
  have b0 : (t.toList == s.toList) = true := jg he
  have HE := qh (show showT x.k x.n x.s.data.toList x.l = s.data.toList by rw [← jf.out, he])
  clear he
  go_wp2
  obtain ⟨W9, dI, B9, di⟩ := bG B0 hbw (.int .i64 x.k) (.int .i64 x.n) (.string x.s) (.slice A x.l.length c)
  have Yu := qh (dI ▸ (((yI.out.1.apart yI.out.2 _).apart yI.out.2 _).apart yI.out.2 _).apart yI.out.2 _ : Reads W9 w4.heap.size 1 A x.l.length (dS .i64 x.l))
  have hs9 : w4.heap.size ≤ W9.heap.size := by rw [dI]; simp [World.setCell]
  rw [← dI]
  clear dI
  obtain ⟨iW, qc1, qc2, qc3⟩ := af.c4 B9
  refine bodyPost_ret (v := .tuple #[.agg #[.int .i64 x.k, .int .i64 x.n, .string x.s, .slice A x.l.length c], .int .i64 0]) (by simp [results, Tryz.results160, go_sem, iW, qc1, qc2, qc3]) rfl ⟨⟨⟨x, A, c, 0, rfl, Yu.out.more hs9, (fun ad h => Nat.le_of_lt (yI.out.2 ad h)), hl, hs1, (fun _ => ⟨HF.out, HE.out⟩), (fun h => absurd rfl h)⟩⟩, di⟩
 ·
  have b0 : (t.toList == s.toList) = false := bZ he
  have HN := qh (Ji HG.out (.inr (fun e => he ((nV (jf.out.trans e)).trans (nV (t := s) rfl).symm))))
  clear he
  go_wp2
  obtain ⟨W9, dI, B9, di⟩ := bG B0 hbw (.int .i64 0) (.int .i64 0) (.string ⟨#[]⟩) (.slice none 0 0)
  rw [← dI]
  clear dI
  obtain ⟨iW, qc1, qc2, qc3⟩ := af.c4 B9
  refine bodyPost_ret (v := .tuple #[.agg #[.int .i64 0, .int .i64 0, .string ⟨#[]⟩, .slice none 0 0], .int .i64 10]) (by simp [results, Tryz.results160, go_sem, iW, qc1, qc2, qc3]) rfl ⟨⟨⟨⟨0, 0, ⟨#[]⟩, []⟩, none, 0, 10, rfl, Reads.none_, (fun _ h => by cases h), by simp, by decide, (fun h => absurd h (by decide)), (fun _ => ⟨rfl, rfl, HN.out⟩)⟩⟩, di⟩
end Go.Proofs.YtobanldeicclmaaGreatDoor
namespace Go.Proofs.YtobanldeicclmaaGreatDoor
open Go.RowKit
abbrev Kp (g : Nat) (w w' : World) : Prop := w.grownBy w' (some g)
theorem iR (g : Nat) (w : World) : Kp g w w := ⟨rfl, rfl, rfl, Nat.le_refl _, fun _ _ _ => rfl⟩
theorem Kp.trans {g : Nat} {w w1 w2 : World} (h : Kp g w w1) (h' : Kp g w1 w2) : Kp g w w2 :=
 ⟨h'.os.trans h.os, h'.tape.trans h.tape, h'.output.trans h.output, Nat.le_trans h.size h'.size, fun k hk hg => (h'.block k (Nat.lt_of_lt_of_le hk h.size) hg).trans (h.block k hk hg)⟩
theorem Kp.of {g : Nat} {w w' : World} (h : Below w.heap.size w w') : Kp g w w' := ⟨h.os, h.tape, h.output, h.size, fun k hk _ => h.block k hk⟩
theorem Kp.below {g B : Nat} {w w' : World} (h : Kp g w w') (hB : B ≤ g) (hs : B ≤ w.heap.size) : Below B w w' :=
 (Below.refl B w).grown h hs (fun k hk => by injection hk with hk; omega)
theorem Kp.set {g : Nat} {w w' : World} (h : Kp g w w') (i : Nat) (u : Value) : Kp g w (w'.setCell ⟨g, i, none⟩ u) :=
 h.trans ⟨rfl, rfl, rfl, by simp [World.setCell], fun k _ hk => Below.heap_setCell w' ⟨g, i, none⟩ u k (fun e => hk (by rw [e]))⟩
theorem Kp.alloc {g : Nat} {w w' : World} (h : Kp g w w') (o : Obj) : Kp g w (w'.alloc o) := h.trans (Kp.of ((Below.refl _ _).alloc (Nat.le_refl _) o))
theorem dY (g : Nat) (w : World) : ∃ W, W = w.alloc (.cells #[.int .i64 0, .int .i64 0, .string ⟨#[]⟩, .int .i64 0, .int .i64 0, .string ⟨#[]⟩, .slice none 0 0, .slice none 0 0] 27 (0, 0)) ∧ Kp g w W ∧ ZB W w.heap.size ∧ W.heap.size = w.heap.size + 1 ∧ w.heap.size < W.heap.size ∧ Below w.heap.size w W := ⟨_, rfl, (iR g w).alloc _, af.new w _ _, by simp, by simp, (Below.refl _ w).alloc (Nat.le_refl _) _⟩
theorem iV (g : Nat) (w : World) : ∃ W, W = w.alloc (.cells #[.int .i64 0, .int .i64 0, .string ⟨#[]⟩, .int .i64 0, .int .i64 0, .string ⟨#[]⟩, .slice none 0 0, .slice none 0 0] 27 (0, 0)) ∧ Kp g w W ∧ Hid (ZB W w.heap.size) ∧ W.heap.size = w.heap.size + 1 ∧ w.heap.size < W.heap.size ∧ Below w.heap.size w W := ⟨_, rfl, (iR g w).alloc _, qh (af.new w _ _), by simp, by simp, (Below.refl _ w).alloc (Nat.le_refl _) _⟩
theorem Kp.cell {g : Nat} {w w' : World} (h : Kp g w w') {a : Addr} (hg : a.block ≠ g) {v : Value} (hc : w.cell? a = some v) : w'.cell? a = some v := by
 rw [World.cell?_of_block (h.block a.block (block_lt_of_cell hc) (fun e => hg (by injection e)))]; exact hc
structure mV (w : World) (p : Nat → Prop) (B size : Nat) (A : Option Addr) (n : Nat) (xs : List Value) : Prop where
 r : Reads w B size A n xs
 l : 0 < n → ∀ ad, A = some ad → p ad.block
def dG (p : Nat → Prop) (w w' : World) : Prop := w.heap.size ≤ w'.heap.size ∧ ∀ k, p k → k < w.heap.size → w'.heap[k]? = w.heap[k]?
theorem Kp.stay {g : Nat} {w w' : World} (h : Kp g w w') {p : Nat → Prop} (hp : ∀ k, p k → k ≠ g) : dG p w w' := ⟨h.size, fun k hk hl => h.block k hl (fun e => hp k hk (by injection e))⟩
theorem dG.of {p : Nat → Prop} {w w' : World} (h : Below w.heap.size w w') : dG p w w' := ⟨h.size, fun k _ hl => h.block k hl⟩
theorem dG.grown {p : Nat → Prop} {w w' : World} {row : Option Nat} (h : w.grownBy w' row) (hp : ∀ k, p k → some k ≠ row) : dG p w w' := ⟨h.size, fun k hk hl => h.block k hl (hp k hk)⟩
theorem mV.keep {w w' : World} {p : Nat → Prop} {B size n : Nat} {A : Option Addr} {xs : List Value} (h : mV w p B size A n xs) (hb : dG p w w') : mV w' p B size A n xs := by
 refine ⟨⟨h.r.1, fun h0 => ?_⟩, h.l⟩
 obtain ⟨ad, e, hB, hc⟩ := h.r.2 h0
 refine ⟨ad, e, hB, fun j u hu => ?_⟩
 have hcell := hc j u hu
 have hlt := block_lt_of_cell hcell
 rw [World.cell?_of_block (hb.2 _ (by rw [ja]; exact h.l h0 ad e) hlt)]
 exact hcell
theorem mV.up {w : World} {p : Nat → Prop} {B B' size n : Nat} {A : Option Addr} {xs : List Value} (h : mV w p B size A n xs) (hB : B ≤ B') : mV w p B' size A n xs := ⟨h.r.more hB, h.l⟩
inductive dK (w : World) (p : Nat → Prop) (B : Nat) : Ex → List Value → Prop
 | mk {e : Ex} {A : Option Addr} {c : Nat} {A' : Option Addr} {c' : Nat} {cs : List Value} (hn : e.nm.size ≤ maxLen) (hs : e.v.s.size ≤ maxLen) (hl : e.v.l.length ≤ maxLen) (ha : e.ar.length ≤ maxLen)
   (hx : mV w p B 1 A e.v.l.length (dS .i64 e.v.l)) (hr : mV w p B 8 A' e.ar.length cs) (hi : ∀ i (h : i < e.ar.length), dK w p B e.ar[i] ((cs.drop (i * 8)).take 8)) : dK w p B e (ai e A c A' c')
theorem dK.at_ {w : World} {p : Nat → Prop} {B : Nat} {e : Ex} {cs : List Value} (h : dK w p B e cs) : lK w B e cs := by
 induction h with
 | mk hn hs hl ha hx hr hi ih => exact .mk hn hs hl ha hx.r hr.r ih
theorem dK.keep {w w' : World} {p : Nat → Prop} {B : Nat} {e : Ex} {cs : List Value} (h : dK w p B e cs) (hb : dG p w w') : dK w' p B e cs := by
 induction h with
 | mk hn hs hl ha hx hr hi ih => exact .mk hn hs hl ha (hx.keep hb) (hr.keep hb) ih
theorem dK.up {w : World} {p : Nat → Prop} {B B' : Nat} {e : Ex} {cs : List Value} (h : dK w p B e cs) (hB : B ≤ B') : dK w p B' e cs := by
 induction h with
 | mk hn hs hl ha hx hr hi ih => exact .mk hn hs hl ha (hx.up hB) (hr.up hB) ih
theorem dK.imp {w : World} {p q : Nat → Prop} {B : Nat} {e : Ex} {cs : List Value} (h : dK w p B e cs) (hpq : ∀ k, p k → k < B → q k) : dK w q B e cs := by
 have hR : ∀ {size n : Nat} {A : Option Addr} {xs : List Value}, mV w p B size A n xs → mV w q B size A n xs := fun hR => ⟨hR.r, fun h0 ad e => by
  obtain ⟨ad', e', hB, -⟩ := hR.r.2 h0
  rw [e] at e'
  injection e' with e'
  subst e'
  exact hpq _ (hR.l h0 ad e) hB⟩
 induction h with
 | mk hn hs hl ha hx hr hi ih => exact .mk hn hs hl ha (hR hx) (hR hr) ih
def aO (s : ByteArray) (i : Nat) : Nat := match bV s.data.toList i with
 | some t => t.at_
 | none => s.size
def aH (s : ByteArray) (i : Nat) : List UInt8 := match bV s.data.toList i with
 | some t => t.tx
 | none => []
def gq (s : ByteArray) (i : Nat) : Bool := match bV s.data.toList i with
 | some t => t.touch
 | none => false
def tb (l : List UInt8) : ByteArray := ⟨l.toArray⟩
theorem bT (l : List UInt8) : (tb l).data.toList = l := by simp [tb]
theorem dm (l : List UInt8) : (tb l).size = l.length := by simp [tb, ByteArray.size]
theorem TA (s : ByteArray) : tb s.data.toList = s := by unfold tb; exact ByteArray.ext (by simp)
theorem uK {a b : List UInt8} (h : tb a = tb b) : a = b := by rw [← bT a, h, bT]
structure aP (w : World) (g : Nat) (s : ByteArray) (i : Nat) : Prop where
 b : af w g 65 #[.string s, .int .i64 (aO s i : Nat), .string (tb (aH s i)), .bool (gq s i)]
 i : i ≤ s.size
 s : s.size ≤ 4000
theorem ak (s : ByteArray) : s.data.toList.length = s.size := by rw [Array.length_toList]; rfl
theorem TC (s : ByteArray) {i : Nat} (hi : i ≤ s.size) : i ≤ aO s i ∧ aO s i + (aH s i).length ≤ s.size := by
 unfold aO aH
 cases h : bV s.data.toList i with
 | none => exact ⟨hi, by simp⟩
 | some t =>
  have := dW h
  rw [ak] at this
  dsimp only
  omega
def ui (w : World) (g : Nat) (s : ByteArray) (r : jO) (e : Ending) (w' : World) : Prop := match r with
 | .ok es l' => ∃ x i cs, es = [x] ∧ l' = wordsOf s.data.toList i ∧ e = .returned (.agg cs.toArray) ∧ dK w' (fun b => w.heap.size ≤ b) w'.heap.size x cs ∧ aP w' g s i ∧ Kp g w w'
 | .err k => e = .panicked [{ v := .iface 61 (.agg #[.int .i64 (k : Nat)]), recovered := false }] ∧ Kp g w w'
end Go.Proofs.YtobanldeicclmaaGreatDoor
namespace Go.Proofs.YtobanldeicclmaaGreatDoor
open Go.RowKit Vtx
theorem V3 (s : ByteArray) (i : Nat) {word : List UInt8} (h : word ≠ []) : kU (wordsOf s.data.toList i) word = (decide (aH s i = word) && !gq s i) := by
 unfold aH gq
 rw [eQ]
 cases bV s.data.toList i with
 | none => show false = (decide (([] : List UInt8) = word) && !false); rw [decide_eq_false (fun e => h e.symm)]; rfl
 | some t => simp [kU, Bool.and_comm]
theorem lT (s : ByteArray) (i : Nat) : dO s.data.toList.length (wordsOf s.data.toList i) = aO s i := by
 unfold aO
 rw [eQ]
 cases bV s.data.toList i with
 | none => exact ak s
 | some t => rfl
theorem XJ (a b : List UInt8) : ((tb a).toList == (tb b).toList) = decide (a = b) := by
 by_cases h : a = b
 ·
  rw [decide_eq_true h]; exact jg (by rw [h])
 ·
  rw [decide_eq_false h]; exact bZ (fun e => h (uK e))
theorem uM (g : Nat) (s : ByteArray) (i : Nat) (w : World) (h : aP w g s i) (word : List UInt8) (hw : word ≠ []) :
  Calls Tryz.prog 84 #[.pointer (some ⟨g, 0, none⟩), .string (tb word)] w fun e w' => e = .returned (.bool (kU (wordsOf s.data.toList i) word)) ∧ w = w' := by
 have c2 := h.b.cell 2
 have c3 := h.b.cell 3
 have HR := qh (V3 s i hw)
 obtain ⟨t, ht⟩ := ae (tb word)
 obtain ⟨u, hu⟩ := ae (tb (aH s i))
 have hb : (u.toList == t.toList) = decide (aH s i = word) := by rw [← ht, ← hu]; exact XJ _ _
 obtain ⟨b, hbb⟩ := ae (decide (aH s i = word))
 obtain ⟨d, hdd⟩ := ae (gq s i)
 rw [hbb] at hb
 rw [ht]
 have HR := qh (HR.out.trans (by rw [hbb, hdd]))
 rw [hu, hdd] at c2 c3
 change w.cell? ⟨g, 2, none⟩ = some (.string u) at c2
 change w.cell? ⟨g, 3, none⟩ = some (.bool d) at c3
 clear hbb hdd ht hu h
 cases b
 ·
  go_enter Tryz.func84, Tryz.ntmps84
  go_wp2_with fail
  go_ret
  exact ⟨aj (by rw [HR.out]; rfl), rfl⟩
 ·
  go_enter Tryz.func84, Tryz.ntmps84
  go_wp2_with fail
  go_ret
  exact ⟨aj (by rw [HR.out]; rfl), rfl⟩
abbrev Fv (k : Nat) : Ending := .panicked [{ v := .iface 61 (.agg #[.int .i64 (k : Nat)]), recovered := false }]
theorem iI (g : Nat) (s : ByteArray) (i : Nat) (w : World) (h : aP w g s i) :
  Calls Tryz.prog 32 #[.pointer (some ⟨g, 0, none⟩)] w fun e w' => e = Fv (aO s i) ∧ w = w' := by
 have c1 : w.cell? ⟨g, 1, none⟩ = some (.int .i64 (aO s i : Nat)) := h.b.cell 1
 clear h
 go_enter Tryz.func32, Tryz.ntmps32
 go_wp2
 exact ⟨rfl, rfl, rfl⟩
theorem Jj {s : ByteArray} {E J : Nat} (hJ : J = E + aK aA (s.data.toList.drop E)) (h : J < s.size) : aO s E = J ∧ aH s E = (s.data.toList.drop J).take (aJ (s.data.toList.drop J)) ∧
  gq s E = (decide (J = E) && decide (0 < E) && bK (s.data.toList.getD (E - 1) 0) && bK (s.data.toList.getD E 0)) := by
 have e : bV s.data.toList E = some ⟨J, (s.data.toList.drop J).take (aJ (s.data.toList.drop J)), (decide (J = E) && decide (0 < E) && bK (s.data.toList.getD (E - 1) 0) && bK (s.data.toList.getD E 0))⟩ := by
  unfold bV
  rw [← hJ, if_pos (by rw [ak]; exact h), show decide (aK aA (s.data.toList.drop E) = 0) = decide (J = E) from decide_eq_decide.2 (by omega)]
 unfold aO aH gq
 rw [e]
 exact ⟨rfl, rfl, rfl⟩
theorem Jk {s : ByteArray} {E J : Nat} (hJ : J = E + aK aA (s.data.toList.drop E)) (h : ¬ J < s.size) : aO s E = s.size ∧ aH s E = [] ∧ gq s E = false := by
 have e : bV s.data.toList E = none := by
  unfold bV
  rw [← hJ, if_neg (by rw [ak]; exact h)]
 unfold aO aH gq
 rw [e]
 exact ⟨rfl, rfl, rfl⟩
theorem jo {s : ByteArray} {i : Nat} (h : i < s.size) : s.data.toList.getD i 0 = s[i] := by
 rw [List.getD_eq_getElem?_getD, List.getElem?_eq_getElem (by rw [ak]; exact h)]
 rfl
theorem Lm (s : ByteArray) (J L : Nat) : s.extract J (J + L) = tb ((s.data.toList.drop J).take L) := by
 unfold tb
 refine ByteArray.ext (Array.toList_inj.1 ?_)
 rw [Lib.extract_data]
 simp
theorem V4 {w : World} {g : Nat} {T : TypeId} {a b c d : Value} (h : af w g T #[a, b, c, d]) (u : Value) : af (w.setCell ⟨g, 3, none⟩ u) g T #[a, b, c, u] := h.kE 3 u
theorem V5 {w : World} {g : Nat} {T : TypeId} {a b c d : Value} (h : af w g T #[a, b, c, d]) (u : Value) : af (w.setCell ⟨g, 1, none⟩ u) g T #[a, u, c, d] := h.kE 1 u
theorem Py {w : World} {g : Nat} {T : TypeId} {a b c d : Value} (h : af w g T #[a, b, c, d]) (u : Value) : af (w.setCell ⟨g, 2, none⟩ u) g T #[a, b, u, d] := h.kE 2 u
theorem NY {g : Nat} {w w' : World} (h : Kp g w w') (n : Nat) : Kp g w (w'.drewN n) := h.trans (Kp.of ((Below.refl _ _).drewN n))
theorem next_any (g : Nat) (s : ByteArray) (i : Nat) (w : World) (h : aP w g s i) :
  Calls Tryz.prog 30 #[.pointer (some ⟨g, 0, none⟩)] w fun e w' => e = .returned (.tuple #[]) ∧ aP w' g s (aO s i + (aH s i).length) ∧ Kp g w w' := by
 have hcl := TC s h.i
 have hs := h.s
 have HB := qh h.b
 obtain ⟨u, hu⟩ := ae (tb (aH s i))
 have hus : u.size = (aH s i).length := by rw [← hu, dm]
 rw [hu] at HB
 obtain ⟨A, hA⟩ := ae (aO s i)
 rw [hA] at HB hcl ⊢
 rw [← hus] at hcl ⊢
 obtain ⟨E, hE⟩ := ae (A + u.size)
 rw [hE] at hcl ⊢
 obtain ⟨d0, hd0⟩ := ae (gq s i)
 rw [hd0] at HB
 obtain ⟨J, hJ⟩ := au (E + aK aA (s.data.toList.drop E))
 have acF : J ≤ s.size := by
  have h1 := qp aA (s.data.toList.drop E)
  rw [List.length_drop, ak] at h1
  omega
 obtain ⟨T, hT⟩ := ae (gq s E)
 have HJ := qh hJ
 have HT := qh hT
 have c0 : w.cell? ⟨g, 0, none⟩ = some (.string s) := HB.out.cell 0
 have c1 : w.cell? ⟨g, 1, none⟩ = some (.int .i64 (A : Nat)) := HB.out.cell 1
 have c2 : w.cell? ⟨g, 2, none⟩ = some (.string u) := HB.out.cell 2
 have hEi : ((A : Nat) : Int) + (u.size : Nat) = (E : Nat) := by omega
 have hEw : IntKind.i64.wrap (((A : Nat) : Int) + (u.size : Nat)) = (E : Nat) := by rw [hEi]; exact IntWalk.i64_in _ (by omega)
 clear hJ hT hd0 hA hu hus h hE
 go_enter Tryz.func30, Tryz.ntmps30
 go_upto_region 0 with (fail)
 go_quiet (fail)
 obtain ⟨W, hW⟩ := au (w.drewN nq)
 have V6 := qh (show Kp g w W by rw [hW]; exact NY (iR g w) nq)
 have lu := qh (show af W g 65 #[.string s, .int .i64 (A : Nat), .string u, .bool d0] by rw [hW]; exact HB.out.drewN nq)
 rw [← hW]
 clear c0 c1 c2 hW hEi hEw
 have c0 : W.cell? ⟨g, 0, none⟩ = some (.string s) := lu.out.cell 0
 have z3 : W.frozen? ⟨g, 3, none⟩ = false := lu.out.frozen 3
 have c3 : W.cell? ⟨g, 3, none⟩ = some (.bool d0) := lu.out.cell 3
 go_wp2_with fail
 go_loop [3] (fun x => ∃ n : Nat, E ≤ n ∧ n ≤ s.size ∧ x = .int .i64 n ∧ Hid (J = n + aK aA (s.data.toList.drop n))) (fun x => s.size - (intOf x).toNat)
 case atStart => exact ⟨E, Nat.le_refl _, hcl.2, rfl, HJ⟩
 case round =>
  obtain ⟨n, hEn, hn, rfl, HR⟩ := hrel
  by_cases hlt : n < s.size
  ·
   have fO := qh hlt
   by_cases h32 : s[n].toNat = 32
   ·
    have HG := qh (iY hlt (show aA s[n] = true from decide_eq_true ((toNat_eq s[n] 32 (by decide)).2 h32)) HR.out)
    have b1 : ((s[n].toNat : Int) == 32) = true := by simp; omega
    clear h32
    go_wp2_with fail
    go_round
    case rel => exact ⟨n + 1, by omega, fO.out, by go_num, HG⟩
    case measure =>
     have := fO.out
     simp [intOf]
     omega
   ·
    have Lp := jw hlt (show aA s[n] = false from decide_eq_false (fun e => h32 ((toNat_eq s[n] 32 (by decide)).1 e))) HR.out
    have b1 : ((s[n].toNat : Int) == 32) = false := by simp; omega
    obtain ⟨hcA, TD, TE⟩ := Jj HJ.out (by rw [Lp]; exact hlt)
    subst Lp
    have vK := qh (HT.out.symm.trans TE)
    have TF := qh (And.intro hcA TD)
    clear h32 hcA TD TE
    go_upto_region 4 with (fail)
    go_cut [3] (fun x wc => x = .int .i64 (J : Nat) ∧ wc = W.setCell ⟨g, 3, none⟩ (.bool T))
    case first =>
     by_cases V7 : J = E
     ·
      subst V7
      have hbe : (((J : Nat) : Int) == ((J : Nat) : Int)) = true := by simp
      by_cases hE0 : 0 < J
      ·
       have hi0 : J - 1 < s.size := by omega
       obtain ⟨b1, hb1⟩ := ae (bK s[J - 1])
       obtain ⟨b2, hb2⟩ := ae (bK (s[J]'hlt))
       have jf := qh (show T = (b1 && b2) by rw [vK.out, jo hi0, jo hlt, hb1, hb2, decide_eq_true hE0]; simp)
       have HW1 := qh (show Calls Tryz.prog 52 #[.int .u8 (s[J - 1].toNat : Nat)] W fun e w'' => e = .returned (.bool b1) ∧ W = w'' from by
        exact (jv s[J - 1] W).mono fun e w'' ⟨he, hw⟩ => ⟨he.trans (congrArg (fun x => Ending.returned (.bool x)) hb1), hw⟩)
       have HW2 := qh (show Calls Tryz.prog 52 #[.int .u8 ((s[J]'hlt).toNat : Nat)] W fun e w'' => e = .returned (.bool b2) ∧ W = w'' from by
        exact (jv (s[J]'hlt) W).mono fun e w'' ⟨he, hw⟩ => ⟨he.trans (congrArg (fun x => Ending.returned (.bool x)) hb2), hw⟩)
       have hE1 : ((J : Nat) : Int) - 1 = ((J - 1 : Nat) : Int) := by omega
       have aak : IntKind.i64.wrap (((J : Nat) : Int) - 1) = ((J - 1 : Nat) : Int) := by rw [hE1]; exact IntWalk.i64_in _ (by omega)
       have Yv : (0 : Int) < ((J : Nat) : Int) := by omega
       clear hb1 hb2 hE1
       cases b1
       ·
        go_wp2_with (go_at_call 52; (with_reducible refine HW1.out.mono ?_); rintro e w1 ⟨rfl, rfl⟩)
        go_meet
        exact ⟨rfl, by rw [jf.out]; rfl⟩
       ·
        cases b2
        ·
         go_wp2_with (first | (go_at_call 52; (with_reducible refine HW1.out.mono ?_); rintro e w1 ⟨rfl, rfl⟩) | (go_at_call 52; (with_reducible refine HW2.out.mono ?_); rintro e w1 ⟨rfl, rfl⟩))
         go_meet
         exact ⟨rfl, by rw [jf.out]; rfl⟩
        ·
         go_wp2_with (first | (go_at_call 52; (with_reducible refine HW1.out.mono ?_); rintro e w1 ⟨rfl, rfl⟩) | (go_at_call 52; (with_reducible refine HW2.out.mono ?_); rintro e w1 ⟨rfl, rfl⟩))
         go_meet
         exact ⟨rfl, by rw [jf.out]; rfl⟩
      ·
       have jf := qh (show T = false by rw [vK.out, decide_eq_false hE0]; simp)
       have hJ0 : ¬ (0 : Int) < ((J : Nat) : Int) := by omega
       go_wp2_with fail
       go_meet
       exact ⟨rfl, by rw [jf.out]⟩
     ·
      have jf := qh (show T = false by rw [vK.out, decide_eq_false V7]; simp)
      have hbe : (((J : Nat) : Int) == ((E : Nat) : Int)) = false := by simp; omega
      have TG : (J == E) = false := by simp; omega
      go_wp2_with fail
      go_meet
      exact ⟨rfl, by rw [jf.out]⟩
    case rest =>
    obtain ⟨rfl, rfl⟩ := hcut
    have B4 := V4 lu.out (.bool T)
    obtain ⟨W4, qH⟩ := au (W.setCell ⟨g, 3, none⟩ (.bool T))
    have iK := qh (show Kp g w W4 by rw [qH]; exact V6.out.set 3 _)
    rw [← qH] at B4
    have HB4 := qh B4
    rw [← qH]
    clear B4 qH c0 z3 c3
    have c0 : W4.cell? ⟨g, 0, none⟩ = some (.string s) := HB4.out.cell 0
    have c1 : W4.cell? ⟨g, 1, none⟩ = some (.int .i64 (A : Nat)) := HB4.out.cell 1
    have c2 : W4.cell? ⟨g, 2, none⟩ = some (.string u) := HB4.out.cell 2
    have z1 : W4.frozen? ⟨g, 1, none⟩ = false := HB4.out.frozen 1
    have z2 : W4.frozen? ⟨g, 2, none⟩ = false := HB4.out.frozen 2
    have hL := wR (s.data.toList.drop J)
    rw [List.length_drop, ak] at hL
    obtain ⟨N, hN⟩ := ae (J + aJ (s.data.toList.drop J))
    have HN := qh hN
    have hN1 : (0 : Int) ≤ ((J : Nat) : Int) := by omega
    have hN2 : ((J : Nat) : Int) ≤ ((N : Nat) : Int) := by omega
    have hN3 : ((N : Nat) : Int) ≤ ((s.size : Nat) : Int) := by omega
    have hN4 : J ≤ N := by omega
    have hN5 : N ≤ s.size := by omega
    have GG : ((J : Nat) : Int) < ((s.size : Nat) : Int) := by omega
    have HWE := qh (fun (w' : World) (hc : w'.cell? ⟨g, 0, none⟩ = some (.string s)) => (show Calls Tryz.prog 53 #[.pointer (some ⟨g, 0, none⟩), .int .i64 (J : Nat)] w' fun e w'' => e = .returned (.int .i64 (N : Nat)) ∧ w' = w'' from by
     have h := zq g s J w' hc hlt hs
     rwa [hN] at h))
    clear hL hN
    go_upto_region 7 with (fail)
    obtain ⟨W5, V8⟩ := au ((W4.setCell ⟨g, 1, none⟩ (.int .i64 (J : Nat))).setCell ⟨g, 2, none⟩ (.string ⟨#[]⟩))
    have sK := qh (show af W5 g 65 #[.string s, .int .i64 (J : Nat), .string ⟨#[]⟩, .bool T] by rw [V8]; exact Py (V5 HB4.out _) _)
    have rq := qh (show Kp g w W5 by rw [V8]; exact (iK.out.set 1 _).set 2 _)
    rw [← V8]
    clear V8 c0 c1 c2 z1 z2
    have c0 : W5.cell? ⟨g, 0, none⟩ = some (.string s) := sK.out.cell 0
    have c2 : W5.cell? ⟨g, 2, none⟩ = some (.string ⟨#[]⟩) := sK.out.cell 2
    have z2 : W5.frozen? ⟨g, 2, none⟩ = false := sK.out.frozen 2
    go_region_with (go_at_call 53; (with_reducible refine (HWE.out _ (by simpa using c0)).mono ?_); rintro e w1 ⟨rfl, rfl⟩)
    all_goals
     go_wp2_with fail
     go_end0
     refine ⟨rfl, ⟨?_, hcl.2, hs⟩, (rq.out.set 2 _).trans (Kp.of (Below.refl _ _).drew)⟩
     rw [TF.out.1, TF.out.2, HT.out, ← Lm, HN.out]
     exact (Py sK.out _).drew
  ·
   have Lp := kK hlt HR.out
   obtain ⟨hcA, TD, TE⟩ := Jk HJ.out (by rw [Lp]; exact hlt)
   have hns : n = s.size := by omega
   subst Lp
   have wU := qh (HT.out.symm.trans TE)
   have TF := qh (And.intro (hcA.trans hns.symm) TD)
   have V9 := qh hns
   have GG : ¬ ((J : Nat) : Int) < ((s.size : Nat) : Int) := by omega
   clear hcA TD TE hns
   go_upto_region 4 with (fail)
   go_cut [3] (fun x wc => x = .int .i64 (J : Nat) ∧ wc = W.setCell ⟨g, 3, none⟩ (.bool T))
   case first =>
    by_cases V7 : J = E
    ·
     subst V7
     have hbe : (((J : Nat) : Int) == ((J : Nat) : Int)) = true := by simp
     by_cases hE0 : 0 < J
     ·
      have Yv : (0 : Int) < ((J : Nat) : Int) := by omega
      go_wp2_with fail
      go_meet
      exact ⟨rfl, by rw [wU.out]⟩
     ·
      have hJ0 : ¬ (0 : Int) < ((J : Nat) : Int) := by omega
      go_wp2_with fail
      go_meet
      exact ⟨rfl, by rw [wU.out]⟩
    ·
     have hbe : (((J : Nat) : Int) == ((E : Nat) : Int)) = false := by simp; omega
     have TG : (J == E) = false := by simp; omega
     go_wp2_with fail
     go_meet
     exact ⟨rfl, by rw [wU.out]⟩
   case rest =>
   obtain ⟨rfl, rfl⟩ := hcut
   have B4 := V4 lu.out (.bool T)
   obtain ⟨W4, qH⟩ := au (W.setCell ⟨g, 3, none⟩ (.bool T))
   have iK := qh (show Kp g w W4 by rw [qH]; exact V6.out.set 3 _)
   rw [← qH] at B4
   have HB4 := qh B4
   rw [← qH]
   clear B4 qH c0 z3 c3
   have c0 : W4.cell? ⟨g, 0, none⟩ = some (.string s) := HB4.out.cell 0
   have c1 : W4.cell? ⟨g, 1, none⟩ = some (.int .i64 (A : Nat)) := HB4.out.cell 1
   have c2 : W4.cell? ⟨g, 2, none⟩ = some (.string u) := HB4.out.cell 2
   have z1 : W4.frozen? ⟨g, 1, none⟩ = false := HB4.out.frozen 1
   have z2 : W4.frozen? ⟨g, 2, none⟩ = false := HB4.out.frozen 2
   go_wp2_with fail
   go_end0
   refine ⟨rfl, ⟨?_, hcl.2, hs⟩, (iK.out.set 1 _).set 2 _⟩
   rw [TF.out.1, TF.out.2, HT.out]
   exact Py (V5 HB4.out _) _
theorem take_any (g : Nat) (s : ByteArray) (i : Nat) (w : World) (h : aP w g s i) (word : List UInt8) (hw : word ≠ []) :
  Calls Tryz.prog 169 #[.pointer (some ⟨g, 0, none⟩), .string (tb word)] w fun e w' => if kU (wordsOf s.data.toList i) word = true then e = .returned (.tuple #[]) ∧ aP w' g s (aO s i + (aH s i).length) ∧ Kp g w w' else e = Fv (aO s i) ∧ w = w' := by
 obtain ⟨b, hb⟩ := ae (kU (wordsOf s.data.toList i) word)
 have HI := qh (uM g s i w h word hw)
 have HN := qh (next_any g s i w h)
 have HW := qh (iI g s i w h)
 rw [hb] at HI ⊢
 clear hb
 cases b
 ·
  go_enter Tryz.func169, Tryz.ntmps169
  go_wp2_with (first | (go_at_call 84; (with_reducible refine HI.out.mono ?_); rintro e w1 ⟨rfl, rfl⟩) | (go_at_call 32; (with_reducible refine HW.out.mono ?_); rintro e w1 ⟨rfl, rfl⟩))
  exact ⟨rfl, rfl, rfl⟩
 ·
  go_enter Tryz.func169, Tryz.ntmps169
  go_wp2_with (first | (go_at_call 84; (with_reducible refine HI.out.mono ?_); rintro e w1 ⟨rfl, rfl⟩) | (go_at_call 30; (with_reducible refine HN.out.mono ?_); rintro e w1 ⟨rfl, h1, h2⟩))
  go_end0
  exact ⟨rfl, h1, h2⟩
end Go.Proofs.YtobanldeicclmaaGreatDoor
