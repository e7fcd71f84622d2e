/- Lemmas for the claim: walks and plain laws. -/
import Derived.Test.YtobanldeicclmaaGreatDoorZ18
import Derived.Test.YtobanldeicclmaaGreatDoorZ17
import Derived.Test.YtobanldeicclmaaGreatDoorZ8
set_option maxHeartbeats 4000000
set_option maxRecDepth 100000
namespace Go.Proofs.YtobanldeicclmaaGreatDoor
open Go.RowKit
theorem Ui (x y : Val) (A B : Option Addr) (c d B1 B2 : Nat) (w : World) (hn : x.l.length ≤ maxLen) (hm : y.l.length ≤ maxLen)
  (hx : Reads w B1 1 A x.l.length (dS .i64 x.l)) (hy : Reads w B2 1 B y.l.length (dS .i64 y.l)) (hB1 : B1 ≤ w.heap.size) (hB2 : B2 ≤ w.heap.size) :
  Calls Tryz.prog 12 #[.agg #[.int .i64 x.k, .int .i64 x.n, .string x.s, .slice A x.l.length c], .agg #[.int .i64 y.k, .int .i64 y.n, .string y.s, .slice B y.l.length d]] w
   fun e w' => e = .returned (.bool (uu x y)) ∧ Below w.heap.size w w' := by
 by_cases h1 : x.k = y.k
 ·
  have b1 : (x.k == y.k) = true := by simp [h1]
  have H1 := qh h1
  clear h1
  by_cases h2 : x.n = y.n
  ·
   have b2 : (x.n == y.n) = true := by simp [h2]
   have H2 := qh h2
   clear h2
   by_cases h3 : x.s = y.s
   ·
    have b3 := jg h3
    have HR := qh (show uu x y = decide (x.l = y.l) by simp [uu, H1.out, H2.out, h3])
    clear h3
    go_enter Tryz.func12, Tryz.ntmps12
    go_wp2_with fail
    refine (GU _ _ _ _ _ _ B1 B2 _ _ _ hn hm ((hx.alloc (by omega) _).alloc (by simp; omega) _) ((hy.alloc (by omega) _).alloc (by simp; omega) _) (by simp; omega) (by simp; omega)).mono ?_
    rintro e w1 ⟨rfl, hb⟩
    go_wp2
    go_ret
    exact ⟨aj (by rw [HR.out]), (((Below.refl _ _).alloc (Nat.le_refl _) _).alloc (by simp) _).trans (hb.mono (by simp; omega))⟩
   ·
    have b3 := bZ h3
    have HR := qh (show uu x y = false by simp [uu, h3])
    clear h3
    go_enter Tryz.func12, Tryz.ntmps12
    go_wp2_with fail
    go_ret
    exact ⟨aj (by rw [HR.out]), (((Below.refl _ _).alloc (Nat.le_refl _) _).alloc (by simp) _)⟩
  ·
   have b2 : (x.n == y.n) = false := by simp [h2]
   have HR := qh (show uu x y = false by simp [uu, h2])
   clear h2
   go_enter Tryz.func12, Tryz.ntmps12
   go_wp2_with fail
   go_ret
   exact ⟨aj (by rw [HR.out]), (((Below.refl _ _).alloc (Nat.le_refl _) _).alloc (by simp) _)⟩
 ·
  have b1 : (x.k == y.k) = false := by simp [h1]
  have HR := qh (show uu x y = false by simp [uu, h1])
  clear h1
  go_enter Tryz.func12, Tryz.ntmps12
  go_wp2_with fail
  go_ret
  exact ⟨aj (by rw [HR.out]), (((Below.refl _ _).alloc (Nat.le_refl _) _).alloc (by simp) _)⟩
end Go.Proofs.YtobanldeicclmaaGreatDoor
namespace Go.Proofs.YtobanldeicclmaaGreatDoor
open Go.RowKit Dig Vtx
theorem LM {v : Val} (hv : aV v = 0) : gZ (showT v.k v.n v.s.data.toList v.l) = ⟨v.k, v.n, v.s.data.toList, v.l⟩ := OL (qG hv).1
theorem JA {s : List UInt8} {x : Val} (h : gZ s = ⟨x.k, x.n, x.s.data.toList, x.l⟩) (hx : aV x ≠ 0 ∨ showT x.k x.n x.s.data.toList x.l ≠ s) : ∀ v : Val, aV v = 0 → showT v.k v.n v.s.data.toList v.l ≠ s := fun v hv e => by
 have := LM hv
 rw [e, h] at this
 have := NV this
 subst this
 rcases hx with hx | hx
 ·
  exact hx hv
 ·
  exact hx e
theorem yO (s : ByteArray) (w : World) (hs : s.size ≤ 2000000) (htab : Tab w) (hm : Mx w) (he : Er w) :
  Calls Tryz.prog 164 #[.string s] w fun e w' => RV e w' w.heap.size s.data.toList ∧ Below w.heap.size w w' := by
 have HT := qh htab
 have HM := qh hm
 have HE := qh he
 clear htab hm he
 go_enter Tryz.func164, Tryz.ntmps164
 go_wp2_with fail
 obtain ⟨W, hW⟩ := au ((w.alloc (.cells #[.int .i64 0, .int .i64 0, .string ⟨#[]⟩, .slice none 0 0] 24 (0, 0))))
 have hbw : Below w.heap.size w W := by rw [hW]; exact ((Below.refl _ w).alloc (Nat.le_refl _) _)
 have B0 : af W (w.heap.size) 24 #[.int .i64 0, .int .i64 0, .string ⟨#[]⟩, .slice none 0 0] := by
  rw [hW]
  have := af.new w 24 #[.int .i64 0, .int .i64 0, .string ⟨#[]⟩, .slice none 0 0]
  exact this
 have hsz : W.heap.size = w.heap.size + 1 := by rw [hW]; simp
 rw [← hW]
 clear hW hsz
 refine (Ug s W hs (HM.out.below hbw) (HE.out.below hbw)).mono ?_
 rintro e w1 ⟨hg, hb1⟩
 obtain ⟨x, A, c, rfl, hrd, hA, hl, hs1, q1⟩ := hg.ex
 have hA2 : ∀ ad, A = some ad → w.heap.size < ad.block := fun ad h => Nat.lt_of_lt_of_le B0.lt (hA ad h)
 have oI := qh (And.intro hrd hA2)
 have HQ := qh q1
 have B0 := B0.below hb1 B0.lt
 have hbw := hbw.trans (hb1.mono hbw.size)
 clear hg hb1 hrd hA q1 hA2
 go_upto_region 2 with (fail)
 obtain ⟨W2, hW2⟩ := au (w1.alloc (.cells #[.int .i64 x.k, .int .i64 x.n, .string x.s, .slice A x.l.length c] 24 (0, 0)))
 have hb2 : Below w1.heap.size w1 W2 := hW2 ▸ (Below.refl _ w1).alloc (Nat.le_refl _) _
 have B3 : af W2 w1.heap.size 24 #[.int .i64 x.k, .int .i64 x.n, .string x.s, .slice A x.l.length c] := hW2 ▸ af.new w1 _ _
 rw [← hW2]
 have hlt := B0.lt
 have B0 := B0.below hb2 B0.lt
 have Tz := oI.out.1.below hb2
 have hsz2 : w1.heap.size ≤ W2.heap.size := hb2.size
 have hbw := hbw.trans (hb2.mono hbw.size)
 have oI := qh (And.intro (Tz.more hsz2) oI.out.2)
 clear hW2 hb2 Tz
 obtain ⟨aQ, eX, aS, eY, aT, fD, aU, fE⟩ := af.z4 B0
 obtain ⟨rf, ug, uh, sH⟩ := af.c4 B3
 go_wp2_with fail
 refine (PT x A c W2 (by unfold maxLen; omega) (by unfold maxLen; omega) oI.out.1 (HT.out.below hbw) (HM.out.below hbw)).mono ?_
 rintro e w4 ⟨⟨t, rfl, ht⟩, hb4⟩
 obtain ⟨f, hf⟩ := ae (aV x)
 have HF := qh hf
 rw [hf]
 rw [hf] at ht
 have jf := qh ht
 have B0 := B0.below hb4 B0.lt
 have B3 := B3.below hb4 B3.lt
 have yI := qh (And.intro ((oI.out.1.below hb4).more hb4.size) oI.out.2)
 have hbw := hbw.trans (hb4.mono hbw.size)
 clear hf ht hb4 aQ eX aS eY aT fD aU fE rf ug uh sH
 obtain ⟨aQ, eX, aS, eY, aT, fD, aU, fE⟩ := af.z4 B0
 obtain ⟨rf, ug, uh, sH⟩ := af.c4 B3
 by_cases h0 : f = 0
 rotate_left
 ·
  have hne : (f != 0) = true := by simpa using h0
  have HN := qh (JA HQ.out (.inl (by rw [HF.out]; exact h0)))
  clear h0
  go_wp2
  obtain ⟨W9, dI, B9, di⟩ := bG B0 hbw (.int .i64 0) (.int .i64 0) (.string ⟨#[]⟩) (.slice none 0 0)
  rw [← dI]
  clear dI
  obtain ⟨iW, qc1, qc2, qc3⟩ := af.c4 B9
  refine bodyPost_ret (v := .tuple #[.agg #[.int .i64 0, .int .i64 0, .string ⟨#[]⟩, .slice none 0 0], .int .i64 10]) (by simp [results, Tryz.results164, go_sem, iW, qc1, qc2, qc3]) rfl ⟨⟨⟨⟨0, 0, ⟨#[]⟩, []⟩, none, 0, 10, rfl, Reads.none_, (fun _ h => by cases h), by simp, by decide, (fun h => absurd h (by decide)), (fun _ => ⟨rfl, rfl, HN.out⟩)⟩⟩, di⟩
 subst h0
 by_cases he : t = s
 ·
  have b0 : (t.toList == s.toList) = true := jg he
  have HE := qh (show showT x.k x.n x.s.data.toList x.l = s.data.toList by rw [← jf.out rfl, he])
  clear he
  go_wp2
  obtain ⟨W9, dI, B9, di⟩ := bG B0 hbw (.int .i64 x.k) (.int .i64 x.n) (.string x.s) (.slice A x.l.length c)
  have Yu := qh (dI ▸ (((yI.out.1.apart yI.out.2 _).apart yI.out.2 _).apart yI.out.2 _).apart yI.out.2 _ : Reads W9 w4.heap.size 1 A x.l.length (dS .i64 x.l))
  have hs9 : w4.heap.size ≤ W9.heap.size := by rw [dI]; simp [World.setCell]
  rw [← dI]
  clear dI
  obtain ⟨iW, qc1, qc2, qc3⟩ := af.c4 B9
  refine bodyPost_ret (v := .tuple #[.agg #[.int .i64 x.k, .int .i64 x.n, .string x.s, .slice A x.l.length c], .int .i64 0]) (by simp [results, Tryz.results164, go_sem, iW, qc1, qc2, qc3]) rfl ⟨⟨⟨x, A, c, 0, rfl, Yu.out.more hs9, (fun ad h => Nat.le_of_lt (yI.out.2 ad h)), hl, hs1, (fun _ => ⟨HF.out, HE.out⟩), (fun h => absurd rfl h)⟩⟩, di⟩
 ·
  have b0 : (t.toList == s.toList) = false := bZ he
  have HN := qh (JA HQ.out (.inr (fun e => he ((nV ((jf.out rfl).trans e)).trans (nV (t := s) rfl).symm))))
  clear he
  go_wp2
  obtain ⟨W9, dI, B9, di⟩ := bG B0 hbw (.int .i64 0) (.int .i64 0) (.string ⟨#[]⟩) (.slice none 0 0)
  rw [← dI]
  clear dI
  obtain ⟨iW, qc1, qc2, qc3⟩ := af.c4 B9
  refine bodyPost_ret (v := .tuple #[.agg #[.int .i64 0, .int .i64 0, .string ⟨#[]⟩, .slice none 0 0], .int .i64 10]) (by simp [results, Tryz.results164, go_sem, iW, qc1, qc2, qc3]) rfl ⟨⟨⟨⟨0, 0, ⟨#[]⟩, []⟩, none, 0, 10, rfl, Reads.none_, (fun _ h => by cases h), by simp, by decide, (fun h => absurd h (by decide)), (fun _ => ⟨rfl, rfl, HN.out⟩)⟩⟩, di⟩
end Go.Proofs.YtobanldeicclmaaGreatDoor
namespace Go.Proofs.YtobanldeicclmaaGreatDoor
open Go.RowKit Vtx
attribute [local go_sem ↓] Go.wp_at_zero Go.wp_at_succ
inductive RM | at_ (l : List Tok) | wr (k : Nat)
def dQ (w : World) (g : Nat) (s : ByteArray) : RM → Prop
 | .at_ l => pY w g s.size l ∧ ∃ i, i ≤ s.size ∧ l = wordsOf s.data.toList i
 | .wr k => DN w g s.size k
def RM.l : RM → List Tok
 | .at_ l => l
 | .wr _ => []
def RM.tl : RM → RM
 | .at_ l => .at_ l.tail
 | .wr k => .wr k
def RM.is (st : RM) (word : List UInt8) : Bool := match st with
 | .at_ l => vN l word
 | .wr _ => false
def RM.sg (st : RM) (a b : Int) : Int := match st with
 | .at_ l => bJ a b l
 | .wr _ => 0
def RM.pk (st : RM) (n : Nat) : List UInt8 × Nat := match st with
 | .at_ l => Go.Proofs.YtobanldeicclmaaGreatDoor.pk n l
 | .wr _ => ([], n)
def RM.ref (st : RM) (n : Nat) : Nat := match st with
 | .at_ l => dO n l
 | .wr k => k
noncomputable def RM.P (st : RM) (n : Nat) (nt : NT) : jO := match st with
 | .at_ l => Pz n nt [] l
 | .wr k => .err k
def aX : jO → RM
 | .ok _ l => .at_ l
 | .err k => .wr k
theorem dQ.lt {w : World} {g : Nat} {s : ByteArray} {st : RM} (h : dQ w g s st) : g < w.heap.size := by
 cases st with
 | at_ l => exact h.1.lt
 | wr k => exact af.lt h
theorem dQ.below {w w' : World} {g : Nat} {s : ByteArray} {st : RM} (h : dQ w g s st) (hb : Below w.heap.size w w') : dQ w' g s st := by
 cases st with
 | at_ l => exact ⟨h.1.below hb, h.2⟩
 | wr k => exact DN.below h hb
theorem dQ.alloc {w : World} {g : Nat} {s : ByteArray} {st : RM} (h : dQ w g s st) (o : Obj) : dQ (w.alloc o) g s st := h.below ((Below.refl _ _).alloc (Nat.le_refl _) _)
theorem dQ.drew {w : World} {g : Nat} {s : ByteArray} {st : RM} (h : dQ w g s st) : dQ w.drew g s st := h.below (Below.refl _ _).drew
def JB (w : World) (g : Nat) : Nat := match w.cell? ⟨g, 0, none⟩ with
 | some (.slice _ n _) => n
 | _ => 0
theorem dQ.len {w : World} {g : Nat} {s : ByteArray} {st : RM} (h : dQ w g s st) : JB w g = st.l.length := by
 cases st with
 | at_ l =>
  obtain ⟨A, c, hb, -⟩ := h.1.ex
  unfold JB
  rw [show w.cell? ⟨g, 0, none⟩ = some (.slice A l.length c) from hb.cell 0]
  rfl
 | wr k =>
  unfold JB
  rw [show w.cell? ⟨g, 0, none⟩ = some (.slice none 0 0) from af.cell h 0]
  rfl
theorem RM.yP {st : RM} {word : List UInt8} (h : st.is word = true) : ∃ t r, st = .at_ (t :: r) ∧ bH t = word := by
 cases st with
 | at_ l =>
  cases l with
  | nil => cases h
  | cons t r => exact ⟨t, r, rfl, of_decide_eq_true h⟩
 | wr k => cases h
theorem RM.LP {st : RM} {a b : Int} (h : st.sg a b ≠ 0) : ∃ t r, st = .at_ (t :: r) := by
 cases st with
 | at_ l =>
  cases l with
  | nil => exact absurd rfl (xm h)
  | cons t r => exact ⟨t, r, rfl⟩
 | wr k => exact absurd rfl h
theorem RM.qC {st : RM} {t : Tok} {r : List Tok} (h : st = .at_ (t :: r)) : st.tl.l.length + 1 = st.l.length := by
 subst h; rfl
theorem RM.nU {st : RM} {n : Nat} {nt : NT} : (aX (st.P n nt)).l.length ≤ st.l.length := by
 cases st with
 | at_ l =>
  show (aX (Pz n nt [] l)).l.length ≤ l.length
  cases h : Pz n nt [] l with
  | ok es l' => exact rV h
  | err k => exact Nat.zero_le _
 | wr k => exact Nat.le_refl _
theorem jy {s : ByteArray} {i : Nat} : ∀ t r, wordsOf s.data.toList i = t :: r → bH t ≠ [] := fun t r h => by
 rw [eQ] at h
 cases ht : bV s.data.toList i with
 | none => rw [ht] at h; cases h
 | some u =>
  rw [ht] at h
  injection h with h1 h2
  subst h1
  have h3 := (dW ht).2.2.1
  intro e
  unfold bH at e
  split at e
  ·
   cases e
  ·
   rw [e] at h3
   simp at h3
theorem mX {s : ByteArray} {i : Nat} (hi : i ≤ s.size) : ∃ j, j ≤ s.size ∧ (wordsOf s.data.toList i).tail = wordsOf s.data.toList j := by
 by_cases h : wordsOf s.data.toList i = []
 ·
  exact ⟨i, hi, by rw [h]; rfl⟩
 ·
  exact ⟨_, (TC s hi).2, (oh h).1.symm⟩
theorem yQ {w : World} {g : Nat} {s : ByteArray} {st : RM} (h : dQ w g s st) (word : List UInt8) :
  Calls Tryz.prog 37 #[.pointer (some ⟨g, 0, none⟩), .string (tb word)] w fun e w' => e = .returned (.bool (st.is word)) ∧ dQ w' g s (if st.is word = true then st.tl else st) ∧ Kp g w w' := by
 cases st with
 | at_ l =>
  refine (yL g s.size l w h.1 word).mono ?_
  intro e w' hr
  show e = .returned (.bool (vN l word)) ∧ dQ w' g s (if vN l word = true then .at_ l.tail else .at_ l) ∧ Kp g w w'
  cases hb : vN l word
  ·
   rw [hb, if_neg (by decide)] at hr
   obtain ⟨rfl, rfl⟩ := hr
   exact ⟨rfl, h, iR g _⟩
  ·
   rw [hb, if_pos rfl] at hr
   obtain ⟨rfl, hr1, hk⟩ := hr
   obtain ⟨-, i, hi, hl⟩ := h
   obtain ⟨j, hj, e⟩ := mX hi
   exact ⟨rfl, ⟨hr1, j, hj, by rw [hl, e]⟩, hk⟩
 | wr k =>
  refine (Ci g s.size k w h (tb word)).mono ?_
  rintro e w' ⟨rfl, rfl⟩
  exact ⟨rfl, h, iR g _⟩
theorem yR {w : World} {g : Nat} {s : ByteArray} {st : RM} (h : dQ w g s st) (word : List UInt8) :
  Calls Tryz.prog 172 #[.pointer (some ⟨g, 0, none⟩), .string (tb word)] w fun e w' => e = .returned (.tuple #[]) ∧ dQ w' g s (if st.is word = true then st.tl else .wr (st.ref s.size)) ∧ Kp g w w' := by
 cases st with
 | at_ l =>
  refine (Ua g s.size l w h.1 word).mono ?_
  rintro e w' ⟨rfl, hk, hr⟩
  refine ⟨rfl, ?_, hk⟩
  show dQ w' g s (if vN l word = true then .at_ l.tail else .wr (dO s.size l))
  cases hb : vN l word
  ·
   rw [hb, if_neg (by decide)] at hr
   exact hr
  ·
   rw [hb, if_pos rfl] at hr
   obtain ⟨-, i, hi, hl⟩ := h
   obtain ⟨j, hj, e⟩ := mX hi
   exact ⟨hr, j, hj, by rw [hl, e]⟩
 | wr k =>
  refine (Wq g s.size k w h (tb word)).mono ?_
  rintro e w' ⟨rfl, hk, hr⟩
  exact ⟨rfl, hr, hk⟩
theorem kX {w : World} {g : Nat} {s : ByteArray} {st : RM} (h : dQ w g s st) : Calls Tryz.prog 17 #[.pointer (some ⟨g, 0, none⟩)] w fun e w' => e = .returned (.agg #[.string (tb (st.pk s.size).1), .int .i64 ((st.pk s.size).2 : Nat)]) ∧ Below w.heap.size w w' := by
 cases st with
 | at_ l => exact Cf g s.size l w h.1
 | wr k => exact GL g s.size k w h
theorem JC {w : World} {g : Nat} {s : ByteArray} {st : RM} (h : dQ w g s st) (KD : ByteArray) (at_ : Nat) : Calls Tryz.prog 16 #[.pointer (some ⟨g, 0, none⟩), .agg #[.string KD, .int .i64 (at_ : Nat)]] w fun e w' => e = .returned (.agg #[.int .i64 0, .int .i64 0, .string ⟨#[]⟩, .int .i64 0, .int .i64 0, .string ⟨#[]⟩, .slice none 0 0, .slice none 0 0]) ∧ dQ w' g s (.wr (match st with
  | .at_ _ => at_
  | .wr k => k)) ∧ Kp g w w' := by
 cases st with
 | at_ l => exact xq w g s.size l h.1 KD at_
 | wr k => exact yM w g s.size k h KD at_
theorem JD (a b : Int) (hab : (a = 4 ∧ b = 11) ∨ (a = 15 ∧ b = 16) ∨ (a = 17 ∧ b = 19)) {o : Int} (h1 : a ≤ o) (h2 : o ≤ b) : iQ o ≠ [] := by
 have h1 : o = 4 ∨ o = 5 ∨ o = 6 ∨ o = 7 ∨ o = 8 ∨ o = 9 ∨ o = 10 ∨ o = 11 ∨ o = 15 ∨ o = 16 ∨ o = 17 ∨ o = 18 ∨ o = 19 := by omega
 rcases h1 with rfl | rfl | rfl | rfl | rfl | rfl | rfl | rfl | rfl | rfl | rfl | rfl | rfl <;> decide
theorem WH (a b : Int) (hab : (a = 4 ∧ b = 11) ∨ (a = 15 ∧ b = 16) ∨ (a = 17 ∧ b = 19)) (g sz k : Nat) (w : World) (h : DN w g sz k) : Calls Tryz.prog 115 #[.pointer (some ⟨g, 0, none⟩), .int .i64 a, .int .i64 b] w fun e w' => e = .returned (.int .i64 0) ∧ Kp g w w' ∧ DN w' g sz k := by
 have HR := qh h
 have kY := qh (show ∀ W, Below w.heap.size w W → Calls Tryz.prog 17 #[.pointer (some ⟨g, 0, none⟩)] W fun e w' => e = .returned (.agg #[.string ⟨#[]⟩, .int .i64 (sz : Nat)]) ∧ Below W.heap.size W w' from fun W hb => GL g sz k W (HR.out.below hb))
 have YA := qh (fun W => uU [] a b W (by omega) (by omega) (by omega))
 rw [show tb [] = ⟨#[]⟩ from rfl] at YA
 have HNE := qh (fun o h1 h2 => @JD a b hab o h1 h2)
 have hfd : ∀ W : World, (Instr.field 48 (.agg #[.string ⟨#[]⟩, .int .i64 (sz : Nat)]) 0).run Tryz.prog W = .ok (.string ⟨#[]⟩) W := fun _ => by kernel_rfl
 clear h
 go_enter Tryz.func115, Tryz.ntmps115
 go_wp2_with fail
 refine (kY.out w (Below.refl _ _)).mono ?_
 rintro e w1 ⟨rfl, hb1⟩
 go_wp2_with fail
 refine (YA.out w1).mono ?_
 rintro e w2 ⟨o, rfl, -, hb2⟩
 have vV := hb1.trans (hb2.mono hb1.size)
 go_wp2_with fail
 refine (kY.out w2 vV).mono ?_
 rintro e w3 ⟨rfl, hb3⟩
 have hb := vV.trans (hb3.mono vV.size)
 go_wp2_with fail
 go_ret
 exact ⟨by rfl, Kp.of hb, HR.out.below hb⟩
theorem LQ {w : World} {g : Nat} {s : ByteArray} {st : RM} (h : dQ w g s st) (a b : Int) (hab : (a = 4 ∧ b = 11) ∨ (a = 15 ∧ b = 16) ∨ (a = 17 ∧ b = 19)) :
  Calls Tryz.prog 115 #[.pointer (some ⟨g, 0, none⟩), .int .i64 a, .int .i64 b] w fun e w' => e = .returned (.int .i64 (st.sg a b)) ∧ dQ w' g s (if st.sg a b = 0 then st else st.tl) ∧ Kp g w w' := by
 cases st with
 | at_ l =>
  obtain ⟨hr, i, hi, hl⟩ := h
  refine (Uc a b hab g s.size l w hr (fun t r e => jy (s := s) (i := i) t r (by rw [← hl]; exact e))).mono ?_
  rintro e w' ⟨rfl, hk, hr'⟩
  refine ⟨rfl, ?_, hk⟩
  show dQ w' g s (if bJ a b l = 0 then .at_ l else .at_ l.tail)
  by_cases h0 : bJ a b l = 0
  ·
   rw [if_pos h0] at hr' ⊢
   exact ⟨hr', i, hi, hl⟩
  ·
   rw [if_neg h0] at hr' ⊢
   obtain ⟨j, hj, e⟩ := mX hi
   exact ⟨hr', j, hj, by rw [hl, e]⟩
 | wr k =>
  refine (WH a b hab g s.size k w h).mono ?_
  rintro e w' ⟨rfl, hk, hr⟩
  exact ⟨rfl, hr, hk⟩
def RX (p : Nat → Prop) (w : World) (r : jO) (cs : List Value) : Prop := ∀ es l, r = .ok es l → ∃ x, es = [x] ∧ dK w p w.heap.size x cs
def RR (w : World) (g : Nat) (s : ByteArray) (r : jO) (cs : List Value) (w' : World) : Prop := dQ w' g s (aX r) ∧ Kp g w w' ∧ RX (fun b => w.heap.size ≤ b) w' r cs
def TR (w : World) (g : Nat) : Prop := ∃ w0 : World, Tab w0 ∧ Mx w0 ∧ Er w0 ∧ Sp w0 ∧ w0.heap.size ≤ g ∧ Below w0.heap.size w0 w
theorem TR.kp {w w' : World} {g : Nat} (h : TR w g) (hk : Kp g w w') : TR w' g := by
 obtain ⟨w0, h1, h2, h3, h4, h5, h6⟩ := h
 exact ⟨w0, h1, h2, h3, h4, h5, h6.trans (hk.below h5 h6.size)⟩
theorem TR.below {w w' : World} {g : Nat} (h : TR w g) (hb : Below w.heap.size w w') : TR w' g := h.kp (Kp.of hb)
theorem TR.all {w : World} {g : Nat} (h : TR w g) : Tab w ∧ Mx w ∧ Er w ∧ Sp w := by
 obtain ⟨w0, h1, h2, h3, h4, h5, h6⟩ := h
 exact ⟨h1.below h6, h2.below h6, h3.below h6, bD h4 h6⟩
def MR (F : FuncId) (s : ByteArray) (st : RM) (r : jO) : Prop := ∀ g w, dQ w g s st → TR w g → Calls Tryz.prog F #[.pointer (some ⟨g, 0, none⟩)] w fun e w' => ∃ k0 o0 s0 k1 n1 s1 A1 m1 c1 A2 m2 c2, e = .returned (.agg #[.int .i64 k0, .int .i64 o0, .string s0, .int .i64 k1, .int .i64 n1, .string s1, .slice A1 m1 c1, .slice A2 m2 c2]) ∧ RR w g s r [.int .i64 k0, .int .i64 o0, .string s0, .int .i64 k1, .int .i64 n1, .string s1, .slice A1 m1 c1, .slice A2 m2 c2] w'
def MS (F : FuncId) (nt : NT) (s : ByteArray) (st : RM) : Prop := MR F s st (st.P s.data.toList.length nt)
theorem RX.keep {p : Nat → Prop} {w w' : World} {r : jO} {cs : List Value} (h : RX p w r cs) (hs : dG p w w') : RX p w' r cs := fun es l e => by
 obtain ⟨x, h1, h2⟩ := h es l e
 exact ⟨x, h1, (h2.keep hs).up hs.1⟩
theorem RX.imp {p q : Nat → Prop} {w : World} {r : jO} {cs : List Value} (h : RX p w r cs) (hq : ∀ k, p k → k < w.heap.size → q k) : RX q w r cs := fun es l e => by
 obtain ⟨x, h1, h2⟩ := h es l e
 exact ⟨x, h1, h2.imp hq⟩
theorem RX.kp {p : Nat → Prop} {w w' : World} {g : Nat} {r : jO} {cs : List Value} (h : RX p w r cs) (hk : Kp g w w') (hq : ∀ k, p k → k ≠ g) : RX p w' r cs := h.keep (hk.stay hq)
theorem rE {w : World} {p : Nat → Prop} {B : Nat} {x : Ex} {cs : List Value} (h : dK w p B x cs) : ∃ A c A' c', cs = ai x A c A' c' := by
 cases h with
 | mk hn hs hl ha hx hr hi => exact ⟨_, _, _, _, rfl⟩
theorem RX.one {p : Nat → Prop} {w5 w6 : World} {r : jO} {cs : List Value} (o : Int) (h : RX p w5 r cs)
  (hb6 : Below (w5.alloc (.cells cs.toArray 27 (0, 0))).heap.size (w5.alloc (.cells cs.toArray 27 (0, 0))) w6) (hq : ∀ k, w5.heap.size ≤ k → p k) :
  RX p w6 (r.bind fun es l => .ok [bQ o es] l) [.int .i64 4, .int .i64 o, .string ⟨#[]⟩, .int .i64 0, .int .i64 0, .string ⟨#[]⟩, .slice none 0 0, .slice (some ⟨w5.heap.size, 0, none⟩) 1 1] := fun es l e => by
 cases r with
 | err k => cases e
 | ok es0 l0 =>
  injection e with e1 e2
  obtain ⟨x, h1, h2⟩ := h es0 l0 rfl
  subst h1
  obtain ⟨A, c, A', c', rfl⟩ := rE h2
  exact ⟨bQ o [x], e1.symm, GK o h2 hb6 hq⟩
theorem RX.two {p : Nat → Prop} {w5 w6 : World} {r : jO} {y : Ex} {cs ds : List Value} (o : Int) (hy : dK w5 p w5.heap.size y cs) (h : RX p w5 r ds)
  (hb6 : Below (w5.alloc (.cells (cs ++ ds).toArray 27 (0, 0))).heap.size (w5.alloc (.cells (cs ++ ds).toArray 27 (0, 0))) w6) (hq : ∀ k, w5.heap.size ≤ k → p k) :
  RX p w6 (r.bind fun es l => .ok [bQ o ([y] ++ es)] l) [.int .i64 4, .int .i64 o, .string ⟨#[]⟩, .int .i64 0, .int .i64 0, .string ⟨#[]⟩, .slice none 0 0, .slice (some ⟨w5.heap.size, 0, none⟩) 2 2] := fun es l e => by
 cases r with
 | err k => cases e
 | ok es0 l0 =>
  injection e with e1 e2
  obtain ⟨x, h1, h2⟩ := h es0 l0 rfl
  subst h1
  obtain ⟨A, c, A', c', rfl⟩ := rE hy
  obtain ⟨A3, c3, A4, c4, rfl⟩ := rE h2
  exact ⟨bQ o [y, x], e1.symm, LD o hy h2 hb6 hq⟩
theorem dH {r : jO} {f : List Ex → List Ex} : aX (r.bind fun es l => .ok (f es) l) = aX r := by cases r <;> rfl
theorem RX.dU {w : World} {p : Nat → Prop} {r : jO} {cs : List Value} {b : Nat} (h : RX p w r cs) (hq : ∀ k, p k → k ≠ b) (v0 v1 v2 v3 v4 v5 v6 v7 : Value) : RX p (dU w b v0 v1 v2 v3 v4 v5 v6 v7) r cs := fun es l e => by
 obtain ⟨x, h1, h2⟩ := h es l e
 exact ⟨x, h1, vM h2 hq v0 v1 v2 v3 v4 v5 v6 v7⟩
theorem dQ.far {w w' : World} {g : Nat} {s : ByteArray} {st : RM} (h : dQ w g s st) (hs : w.heap.size ≤ w'.heap.size) (hL : ∀ k, k ≤ g → w'.heap[k]? = w.heap[k]?) : dQ w' g s st := by
 cases st with
 | at_ l => exact ⟨h.1.far hs hL, h.2⟩
 | wr k =>
  have h : DN w g s.size k := h
  show DN w' g s.size k
  unfold DN af at h ⊢
  rw [hL g (Nat.le_refl _)]
  exact h
theorem dQ.dU {w : World} {g b : Nat} {s : ByteArray} {st : RM} (h : dQ w g s st) (hb : g < b) (v0 v1 v2 v3 v4 v5 v6 v7 : Value) : dQ (dU w b v0 v1 v2 v3 v4 v5 v6 v7) g s st :=
 h.far (by rw [df]; exact Nat.le_refl _) (fun k hk => dD _ _ _ _ _ _ _ _ _ _ k (by omega))
theorem RR.ret {w w5 : World} {g L : Nat} {s : ByteArray} {r : jO} {cs : List Value} (hs : dQ w5 g s (aX r)) (hk : Kp g w w5) (hx : RX (fun b => L ≤ b) w5 r cs) (hW : w.heap.size < L) (hg : g < w.heap.size) (v0 v1 v2 v3 v4 v5 v6 v7 : Value) : RR w g s r cs (dU w5 w.heap.size v0 v1 v2 v3 v4 v5 v6 v7) :=
 ⟨hs.dU hg _ _ _ _ _ _ _ _, fF hk (Nat.le_refl _) _ _ _ _ _ _ _ _, (hx.dU (fun k hk => by omega) _ _ _ _ _ _ _ _).imp (fun k hk _ => by omega)⟩
end Go.Proofs.YtobanldeicclmaaGreatDoor
