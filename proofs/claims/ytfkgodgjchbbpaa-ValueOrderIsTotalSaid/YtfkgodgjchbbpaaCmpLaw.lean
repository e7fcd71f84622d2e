/- The plain law: the order of values is total. No program in sight. -/
import Derived.Test.YtfkgodgjchbbpaaVal
namespace Go.Proofs.Ytfkgodgjchbbpaa

theorem ordI_range (a b : Int) : ordI a b = -1 ∨ ordI a b = 0 ∨ ordI a b = 1 := by unfold ordI; split <;> (try split) <;> simp
theorem ordI_anti (a b : Int) : ordI a b = -ordI b a := by unfold ordI; split <;> split <;> (try split) <;> omega
theorem ordI_self (a : Int) : ordI a a = 0 := by unfold ordI; simp
theorem ordI_zero {a b : Int} (h : ordI a b = 0) : a = b := by unfold ordI at h; split at h <;> (try split at h) <;> omega
theorem ordI_le {a b : Int} (h : ordI a b ≤ 0) : a ≤ b := by unfold ordI at h; split at h <;> (try split at h) <;> omega
theorem ordI_lt {a b : Int} (h : ordI a b = -1) : a < b := by unfold ordI at h; split at h <;> (try split at h) <;> omega
theorem ordI_of_lt {a b : Int} (h : a < b) : ordI a b = -1 := by unfold ordI; rw [if_pos h]

theorem cmpL_range : ∀ a b : List Int, cmpL a b = -1 ∨ cmpL a b = 0 ∨ cmpL a b = 1
  | [], [] => by simp [cmpL]
  | [], _ :: _ => by simp [cmpL]
  | _ :: _, [] => by simp [cmpL]
  | a :: l, b :: r => by
    unfold cmpL
    split
    · exact cmpL_range l r
    · exact ordI_range a b
theorem cmpL_anti : ∀ a b : List Int, cmpL a b = -cmpL b a
  | [], [] => by simp [cmpL]
  | [], _ :: _ => by simp [cmpL]
  | _ :: _, [] => by simp [cmpL]
  | a :: l, b :: r => by
    have h := ordI_anti a b
    unfold cmpL
    by_cases h0 : ordI a b = 0
    · rw [if_pos h0, if_pos (by omega)]; exact cmpL_anti l r
    · rw [if_neg h0, if_neg (by omega)]; exact h
theorem cmpL_zero : ∀ {a b : List Int}, cmpL a b = 0 → a = b
  | [], [], _ => rfl
  | [], _ :: _, h => by simp [cmpL] at h
  | _ :: _, [], h => by simp [cmpL] at h
  | a :: l, b :: r, h => by
    unfold cmpL at h
    split at h
    · rename_i h0; rw [ordI_zero h0, cmpL_zero h]
    · omega
theorem cmpL_self : ∀ a : List Int, cmpL a a = 0
  | [] => rfl
  | a :: l => by unfold cmpL; rw [if_pos (ordI_self a)]; exact cmpL_self l
def Good (p q r : Int) : Prop := (p = 0 → r = q) ∧ (q = 0 → r = p) ∧ (p < 0 → q < 0 → r < 0)
theorem Good.lex {p q r p' q' r' : Int} (h : Good p q r) (h' : Good p' q' r') : Good (if p ≠ 0 then p else p') (if q ≠ 0 then q else q') (if r ≠ 0 then r else r') := by
  unfold Good at *
  obtain ⟨h1, h2, h3⟩ := h
  obtain ⟨g1, g2, g3⟩ := h'
  by_cases e1 : p = 0 <;> by_cases e2 : q = 0 <;> by_cases e3 : r = 0 <;> simp only [e1, e2, e3, ne_eq, not_true, not_false_iff, if_true, if_false] <;> refine ⟨fun h => ?_, fun h => ?_, fun h h' => ?_⟩ <;> first | exact False.elim h | omega
theorem Good.le {p q r : Int} (h : Good p q r) (h1 : p ≤ 0) (h2 : q ≤ 0) : r ≤ 0 := by
  obtain ⟨a, b, c⟩ := h
  omega
theorem ordI_good (a b c : Int) : Good (ordI a b) (ordI b c) (ordI a c) := by
  unfold Good ordI
  refine ⟨fun h => ?_, fun h => ?_, fun h h' => ?_⟩ <;> repeat' split at * <;> omega
theorem cmpL_cons (a b : Int) (l r : List Int) : cmpL (a :: l) (b :: r) = if ordI a b ≠ 0 then ordI a b else cmpL l r := by
  conv => lhs; unfold cmpL
  by_cases h : ordI a b = 0 <;> simp [h]
theorem cmpL_good : ∀ a b c : List Int, Good (cmpL a b) (cmpL b c) (cmpL a c)
  | [], [], [] => by simp [Good, cmpL]
  | [], [], _ :: _ => by simp [Good, cmpL]
  | [], _ :: _, [] => by simp [Good, cmpL]
  | [], b :: r, c :: s => by simp [Good, cmpL]
  | _ :: _, [], [] => by simp [Good, cmpL]
  | _ :: _, [], _ :: _ => by simp [Good, cmpL]
  | _ :: _, _ :: _, [] => by simp [Good, cmpL]
  | a :: l, b :: r, c :: s => by
    rw [cmpL_cons, cmpL_cons, cmpL_cons]
    exact (ordI_good a b c).lex (cmpL_good l r s)

def byteI (l : List UInt8) : List Int := l.map fun c => (c.toNat : Int)
theorem byteI_inj {a b : List UInt8} (h : byteI a = byteI b) : a = b := by
  induction a generalizing b with
  | nil => cases b <;> simp_all [byteI]
  | cons x l ih =>
    cases b with
    | nil => simp [byteI] at h
    | cons y r =>
      simp only [byteI, List.map_cons, List.cons.injEq] at h
      obtain ⟨h1, h2⟩ := h
      have e : x = y := UInt8.toNat_inj.1 (by omega)
      rw [ih h2, e]
theorem cmpB_eq : ∀ a b : List UInt8, Lib.compareBytes a b = cmpL (byteI a) (byteI b)
  | [], [] => rfl
  | [], _ :: _ => rfl
  | _ :: _, [] => rfl
  | a :: l, b :: r => by
    unfold Lib.compareBytes
    simp only [byteI, List.map_cons, cmpL]
    have ih := cmpB_eq l r
    simp only [byteI] at ih
    by_cases h : a < b
    · have h' : (a.toNat : Int) < b.toNat := by have := UInt8.lt_iff_toNat_lt.1 h; omega
      rw [if_pos h, ordI_of_lt h']
      simp
    · by_cases h2 : b < a
      · have h' : (b.toNat : Int) < a.toNat := by have := UInt8.lt_iff_toNat_lt.1 h2; omega
        rw [if_neg h, if_pos h2, ordI_anti, ordI_of_lt h']
        simp
      · have e : a = b := UInt8.toNat_inj.1 (by have := mt UInt8.lt_iff_toNat_lt.2 h; have := mt UInt8.lt_iff_toNat_lt.2 h2; omega)
        subst e
        rw [if_neg h, if_neg h, if_pos (ordI_self _)]
        exact ih

theorem cmpV_range (x y : Val) : cmpV x y = -1 ∨ cmpV x y = 0 ∨ cmpV x y = 1 := by
  unfold cmpV
  split
  · exact ordI_range _ _
  · split
    · exact ordI_range _ _
    · split
      · rw [cmpB_eq]; exact cmpL_range _ _
      · exact cmpL_range _ _
theorem cmpV_anti (x y : Val) : cmpV x y = -cmpV y x := by
  have h1 := ordI_anti x.k y.k
  have h2 := ordI_anti x.n y.n
  have h3 : Lib.compareBytes x.s.data.toList y.s.data.toList = -Lib.compareBytes y.s.data.toList x.s.data.toList := by rw [cmpB_eq, cmpB_eq]; exact cmpL_anti _ _
  have h4 := cmpL_anti x.l y.l
  unfold cmpV
  by_cases e1 : ordI x.k y.k = 0
  · rw [if_neg (by omega), if_neg (c := ordI y.k x.k ≠ 0) (by omega)]
    by_cases e2 : ordI x.n y.n = 0
    · rw [if_neg (by omega), if_neg (c := ordI y.n x.n ≠ 0) (by omega)]
      by_cases e3 : Lib.compareBytes x.s.data.toList y.s.data.toList = 0
      · rw [if_neg (by omega), if_neg (c := Lib.compareBytes y.s.data.toList x.s.data.toList ≠ 0) (by omega)]; exact h4
      · rw [if_pos (by omega), if_pos (c := Lib.compareBytes y.s.data.toList x.s.data.toList ≠ 0) (by omega)]; exact h3
    · rw [if_pos (by omega), if_pos (c := ordI y.n x.n ≠ 0) (by omega)]; exact h2
  · rw [if_pos (by omega), if_pos (c := ordI y.k x.k ≠ 0) (by omega)]; exact h1
theorem cmpV_self (x : Val) : cmpV x x = 0 := by have := cmpV_anti x x; omega
theorem cmpV_parts {x y : Val} (h : cmpV x y = 0) : x.k = y.k ∧ x.n = y.n ∧ x.s = y.s ∧ x.l = y.l := by
  unfold cmpV at h
  split at h
  · omega
  · rename_i e1
    split at h
    · omega
    · rename_i e2
      split at h
      · omega
      · rename_i e3
        refine ⟨ordI_zero (by omega), ordI_zero (by omega), ?_, cmpL_zero h⟩
        have e3' : Lib.compareBytes x.s.data.toList y.s.data.toList = 0 := by omega
        rw [cmpB_eq] at e3'
        exact ByteArray.ext (Array.toList_inj.1 (byteI_inj (cmpL_zero e3')))
theorem cmpV_zero {x y : Val} (h : cmpV x y = 0) : sameV x y = true := by
  obtain ⟨h1, h2, h3, h4⟩ := cmpV_parts h
  simp [sameV, h1, h2, h3, h4]
theorem cmpV_trans {x y z : Val} (h1 : cmpV x y ≤ 0) (h2 : cmpV y z ≤ 0) : cmpV x z ≤ 0 := by
  have g := (ordI_good x.k y.k z.k).lex ((ordI_good x.n y.n z.n).lex ((cmpL_good (byteI x.s.data.toList) (byteI y.s.data.toList) (byteI z.s.data.toList)).lex (cmpL_good x.l y.l z.l)))
  rw [← cmpB_eq, ← cmpB_eq, ← cmpB_eq] at g
  exact g.le h1 h2
end Go.Proofs.Ytfkgodgjchbbpaa
