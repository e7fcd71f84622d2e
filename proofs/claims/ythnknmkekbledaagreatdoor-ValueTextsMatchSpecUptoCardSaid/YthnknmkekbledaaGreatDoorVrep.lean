/- ReplaceAll of quotes and back: the plain mathematics. No program in sight. -/
import Derived.Lib.Replace
import Derived.Lib.IndexMore
namespace Go.Proofs.YthnknmkekbledaaGreatDoor.Vtx
open Go.Lib

/-- what ReplaceAll makes of a text: one byte by a text -/
def subst1 (c : UInt8) (new : List UInt8) (s : List UInt8) : List UInt8 := s.flatMap fun b => if b = c then new else [b]
/-- two quotes by one, from the left -/
def unq : List UInt8 → List UInt8
  | a :: b :: r => if a = 39 ∧ b = 39 then 39 :: unq r else a :: unq (b :: r)
  | l => l
theorem replaceK_miss (old new : List UInt8) (k : Nat) (s : List UInt8) (h : index s old = -1) : replaceK old new k s = s := by
  cases k with
  | zero => rfl
  | succ k => unfold replaceK; rw [if_pos (by simp [h])]
theorem index_cons (b : UInt8) (l sub : List UInt8) : index (b :: l) sub = if sub.isPrefixOf (b :: l) then 0 else if index l sub = -1 then -1 else index l sub + 1 := by
  rw [index]
  simp
/-- one step of counting and replacing at the first byte -/
theorem count_le (s sub : List UInt8) (hs : sub ≠ []) : ∀ f, s.length < f → ∀ g, s.length < g → countFrom sub f s = countFrom sub g s := by
  intro f
  induction f generalizing s with
  | zero => intro h; omega
  | succ f ih =>
    intro h g hg
    cases g with
    | zero => omega
    | succ g =>
      unfold countFrom
      by_cases hi : index s sub = -1
      · simp [hi]
      · have hm : (index s sub == -1) = false := by simpa using hi
        have h0 := index_ge s sub
        have hr := index_room s sub (by omega)
        have hl : 0 < sub.length := List.length_pos_iff.2 hs
        simp only [hm, Bool.false_eq_true, if_false]
        congr 1
        exact ih _ (by simp; omega) g (by simp; omega)
theorem count_miss {s sub : List UInt8} (h : index s sub = -1) : count s sub = 0 := by unfold count countFrom; simp [h]
theorem count_hit {s sub : List UInt8} {i : Nat} (hs : sub ≠ []) (h : index s sub = i) : count s sub = 1 + count (s.drop (i + sub.length)) sub := by
  have hr := index_room s sub (by omega)
  have hl : 0 < sub.length := List.length_pos_iff.2 hs
  rw [count, countFrom]
  have hm : (index s sub == -1) = false := by rw [h]; rw [beq_eq_false_iff_ne]; omega
  simp only [hm, Bool.false_eq_true, if_false]
  rw [h, Int.toNat_natCast]
  congr 1
  unfold count
  exact count_le _ _ hs _ (by simp; omega) _ (by omega)
/-- ReplaceAll from the left -/
def repl (old new : List UInt8) : List UInt8 → List UInt8 := fun s => replaceK old new (count s old) s
theorem repl_miss {s old new : List UInt8} (h : index s old = -1) : repl old new s = s := replaceK_miss _ _ _ _ h
theorem repl_hit {s old new : List UInt8} {i : Nat} (hs : old ≠ []) (h : index s old = i) : repl old new s = s.take i ++ new ++ repl old new (s.drop (i + old.length)) := by
  unfold repl
  rw [count_hit hs h, Nat.add_comm, replaceK_hit _ _ _ _ _ h]
theorem replaceAll_repl {s old new : List UInt8} (h : old ≠ new) : replaceAll s old new = repl old new s := by
  unfold replaceAll replace replaceNum repl
  rw [if_neg (by simpa using h), if_pos (by simp)]
theorem repl_nil {old new : List UInt8} (hs : old ≠ []) : repl old new [] = [] := repl_miss (by cases old; exact absurd rfl hs; rfl)
theorem repl_here {old new r : List UInt8} (hs : old ≠ []) : repl old new (old ++ r) = new ++ repl old new r := by
  have h : index (old ++ r) old = (0 : Nat) := by
    refine index_first (Nat.zero_le _) ?_ (fun j hj => absurd hj (by omega))
    simp [occAt]
  rw [repl_hit hs h]
  simp
theorem repl_cons {old new r : List UInt8} {b : UInt8} (hs : old ≠ []) (h : old.isPrefixOf (b :: r) = false) : repl old new (b :: r) = b :: repl old new r := by
  have hi := index_cons b r old
  rw [h] at hi
  simp only [Bool.false_eq_true, if_false] at hi
  by_cases hr : index r old = -1
  · rw [if_pos hr] at hi
    rw [repl_miss hi, repl_miss hr]
  · rw [if_neg hr] at hi
    obtain ⟨i, hix⟩ : ∃ i : Nat, index r old = i := ⟨(index r old).toNat, by have := index_ge r old; omega⟩
    rw [repl_hit hs (i := i + 1) (by rw [hi, hix]; rfl), repl_hit hs hix]
    simp [Nat.add_right_comm]
theorem repl_subst1 (c : UInt8) (new s : List UInt8) : repl [c] new s = subst1 c new s := by
  induction s with
  | nil => exact repl_nil (by simp)
  | cons b r ih =>
    by_cases h : b = c
    · subst h
      have := repl_here (new := new) (r := r) (old := [b]) (by simp)
      simp only [List.singleton_append] at this
      rw [this, ih]; simp [subst1]
    · rw [repl_cons (by simp) (by simp [List.isPrefixOf]; exact fun e => h e.symm), ih]; simp [subst1, h]
theorem repl_unq (s : List UInt8) : repl [39, 39] [39] s = unq s := by
  induction s using unq.induct with
  | case1 a b r h ih =>
    obtain ⟨rfl, rfl⟩ := h
    have := repl_here (new := [39]) (r := r) (old := [39, 39]) (by simp)
    simp only [List.cons_append, List.nil_append] at this
    rw [this, ih, unq, if_pos ⟨rfl, rfl⟩]
  | case2 a b r h ih =>
    rw [repl_cons (by simp), ih, unq, if_neg h]
    simp only [List.isPrefixOf, Bool.and_true]
    rw [Bool.eq_false_iff]
    intro e
    simp at e
    exact h ⟨e.1.symm, e.2.symm⟩
  | case3 l h =>
    rcases l with _ | ⟨a, _ | ⟨b, r⟩⟩
    · rw [repl_nil (by simp)]; rfl
    · rw [repl_cons (by simp) (by simp [List.isPrefixOf]), repl_nil (by simp)]; rfl
    · exact absurd rfl (h a b r)
theorem unq_subst (s : List UInt8) : unq (subst1 39 [39, 39] s) = s := by
  induction s with
  | nil => rfl
  | cons b r ih =>
    by_cases h : b = 39
    · subst h
      have e : subst1 39 [39, 39] (39 :: r) = 39 :: 39 :: subst1 39 [39, 39] r := by simp [subst1]
      rw [e, unq, if_pos ⟨rfl, rfl⟩, ih]
    · have e : subst1 39 [39, 39] (b :: r) = b :: subst1 39 [39, 39] r := by simp [subst1, h]
      rw [e]
      cases hr : subst1 39 [39, 39] r with
      | nil => rw [hr] at ih; rw [← ih]; simp [unq]
      | cons d t => rw [unq, if_neg (by simp [h]), ← hr, ih]
theorem back (s : List UInt8) : replaceAll (replaceAll s [39] [39, 39]) [39, 39] [39] = s := by
  rw [replaceAll_repl (by simp), replaceAll_repl (by simp), repl_subst1, repl_unq, unq_subst]
end Go.Proofs.YthnknmkekbledaaGreatDoor.Vtx
