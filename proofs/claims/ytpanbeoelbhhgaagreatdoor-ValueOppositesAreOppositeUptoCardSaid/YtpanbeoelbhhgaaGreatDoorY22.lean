/- ReplaceAll of quotes and back: the plain mathematics. No program in sight. · The texts of values: what Show writes; what Read's readers make of a text. The plain mathematics: no program in sight. · The walks of whole, padded, showNumber: digits read and written. · The walks of strings.Cut and Split in this family's words; readNumber. · A copy of a row of numbers; told. · What an evaluation stands on; aggregates. · Days later; texts. · Texts in small letters; worded. · Comparisons of values. -/
import Derived.Lib.Replace
import Derived.Lib.IndexMore
import Derived.Test.YtpanbeoelbhhgaaGreatDoorY4
import Derived.Test.YtpanbeoelbhhgaaGreatDoorY18
import Derived.Lib.Split
import Derived.Lib.TrimByte
import Derived.Lib.Strings
import Derived.Lib.Join
import Derived.Lib.Small
import Derived.Lib.AtoiAll
import Derived.Lib.SlTrimSet
import Derived.Test.YtpanbeoelbhhgaaGreatDoorYSh
import Derived.Test.YtpanbeoelbhhgaaGreatDoorY9
import Derived.Lib.AppendIntMem
import Derived.Outline
import Derived.Test.YtpanbeoelbhhgaaGreatDoorY21
import Derived.Test.YtpanbeoelbhhgaaGreatDoorY11
import Derived.Test.YtpanbeoelbhhgaaGreatDoorY17
import Derived.Test.YtpanbeoelbhhgaaGreatDoorY15
import Derived.Deep.RegionHeld3
import Derived.Test.YtpanbeoelbhhgaaGreatDoorY20
import Derived.Lib.ConvBytes
import Derived.Lib.SlBytesRow
namespace Go.Proofs.YtpanbeoelbhhgaaGreatDoor.Vtx
open Go.Lib
/-- what ReplaceAll makes of a text: one byte by a text -/
def subst1 (c : UInt8) (new : List UInt8) (s : List UInt8) : List UInt8 := s.flatMap fun b => if b = c then new else [b]
/-- two quotes by one, from the left -/
def unq : List UInt8 → List UInt8
  | a :: b :: r => if a = 39 ∧ b = 39 then 39 :: unq r else a :: unq (b :: r)
  | l => l
theorem replaceK_miss (old new : List UInt8) (k : Nat) (s : List UInt8) (h : index s old = -1) : replaceK old new k s = s := by
  cases k with
  | zero => rfl
  | succ k => unfold replaceK; rw [if_pos (by simp [h])]
theorem index_cons (b : UInt8) (l sub : List UInt8) : index (b :: l) sub = if sub.isPrefixOf (b :: l) then 0 else if index l sub = -1 then -1 else index l sub + 1 := by
  rw [index]
  simp
/-- one step of counting and replacing at the first byte -/
theorem count_le (s sub : List UInt8) (hs : sub ≠ []) : ∀ f, s.length < f → ∀ g, s.length < g → countFrom sub f s = countFrom sub g s := by
  intro f
  induction f generalizing s with
  | zero => intro h; omega
  | succ f ih =>
    intro h g hg
    cases g with
    | zero => omega
    | succ g =>
      unfold countFrom
      by_cases hi : index s sub = -1
      · simp [hi]
      · have hm : (index s sub == -1) = false := by simpa using hi
        have h0 := index_ge s sub
        have hr := index_room s sub (by omega)
        have hl : 0 < sub.length := List.length_pos_iff.2 hs
        simp only [hm, Bool.false_eq_true, if_false]
        congr 1
        exact ih _ (by simp; omega) g (by simp; omega)
theorem count_hit {s sub : List UInt8} {i : Nat} (hs : sub ≠ []) (h : index s sub = i) : count s sub = 1 + count (s.drop (i + sub.length)) sub := by
  have hr := index_room s sub (by omega)
  have hl : 0 < sub.length := List.length_pos_iff.2 hs
  rw [count, countFrom]
  have hm : (index s sub == -1) = false := by rw [h]; rw [beq_eq_false_iff_ne]; omega
  simp only [hm, Bool.false_eq_true, if_false]
  rw [h, Int.toNat_natCast]
  congr 1
  unfold count
  exact count_le _ _ hs _ (by simp; omega) _ (by omega)
/-- ReplaceAll from the left -/
def repl (old new : List UInt8) : List UInt8 → List UInt8 := fun s => replaceK old new (count s old) s
theorem repl_miss {s old new : List UInt8} (h : index s old = -1) : repl old new s = s := replaceK_miss _ _ _ _ h
theorem repl_hit {s old new : List UInt8} {i : Nat} (hs : old ≠ []) (h : index s old = i) : repl old new s = s.take i ++ new ++ repl old new (s.drop (i + old.length)) := by
  unfold repl
  rw [count_hit hs h, Nat.add_comm, replaceK_hit _ _ _ _ _ h]
theorem replaceAll_repl {s old new : List UInt8} (h : old ≠ new) : replaceAll s old new = repl old new s := by
  unfold replaceAll replace replaceNum repl
  rw [if_neg (by simpa using h), if_pos (by simp)]
theorem repl_nil {old new : List UInt8} (hs : old ≠ []) : repl old new [] = [] := repl_miss (by cases old; exact absurd rfl hs; rfl)
theorem repl_here {old new r : List UInt8} (hs : old ≠ []) : repl old new (old ++ r) = new ++ repl old new r := by
  have h : index (old ++ r) old = (0 : Nat) := by
    refine index_first (Nat.zero_le _) ?_ (fun j hj => absurd hj (by omega))
    simp [occAt]
  rw [repl_hit hs h]
  simp
theorem repl_cons {old new r : List UInt8} {b : UInt8} (hs : old ≠ []) (h : old.isPrefixOf (b :: r) = false) : repl old new (b :: r) = b :: repl old new r := by
  have hi := index_cons b r old
  rw [h] at hi
  simp only [Bool.false_eq_true, if_false] at hi
  by_cases hr : index r old = -1
  · rw [if_pos hr] at hi
    rw [repl_miss hi, repl_miss hr]
  · rw [if_neg hr] at hi
    obtain ⟨i, hix⟩ : ∃ i : Nat, index r old = i := ⟨(index r old).toNat, by have := index_ge r old; omega⟩
    rw [repl_hit hs (i := i + 1) (by rw [hi, hix]; rfl), repl_hit hs hix]
    simp [Nat.add_right_comm]
theorem repl_subst1 (c : UInt8) (new s : List UInt8) : repl [c] new s = subst1 c new s := by
  induction s with
  | nil => exact repl_nil (by simp)
  | cons b r ih =>
    by_cases h : b = c
    · subst h
      have := repl_here (new := new) (r := r) (old := [b]) (by simp)
      simp only [List.singleton_append] at this
      rw [this, ih]; simp [subst1]
    · rw [repl_cons (by simp) (by simp [List.isPrefixOf]; exact fun e => h e.symm), ih]; simp [subst1, h]
theorem repl_unq (s : List UInt8) : repl [39, 39] [39] s = unq s := by
  induction s using unq.induct with
  | case1 a b r h ih =>
    obtain ⟨rfl, rfl⟩ := h
    have := repl_here (new := [39]) (r := r) (old := [39, 39]) (by simp)
    simp only [List.cons_append, List.nil_append] at this
    rw [this, ih, unq, if_pos ⟨rfl, rfl⟩]
  | case2 a b r h ih =>
    rw [repl_cons (by simp), ih, unq, if_neg h]
    simp only [List.isPrefixOf, Bool.and_true]
    rw [Bool.eq_false_iff]
    intro e
    simp at e
    exact h ⟨e.1.symm, e.2.symm⟩
  | case3 l h =>
    rcases l with _ | ⟨a, _ | ⟨b, r⟩⟩
    · rw [repl_nil (by simp)]; rfl
    · rw [repl_cons (by simp) (by simp [List.isPrefixOf]), repl_nil (by simp)]; rfl
    · exact absurd rfl (h a b r)
theorem unq_subst (s : List UInt8) : unq (subst1 39 [39, 39] s) = s := by
  induction s with
  | nil => rfl
  | cons b r ih =>
    by_cases h : b = 39
    · subst h
      have e : subst1 39 [39, 39] (39 :: r) = 39 :: 39 :: subst1 39 [39, 39] r := by simp [subst1]
      rw [e, unq, if_pos ⟨rfl, rfl⟩, ih]
    · have e : subst1 39 [39, 39] (b :: r) = b :: subst1 39 [39, 39] r := by simp [subst1, h]
      rw [e]
      cases hr : subst1 39 [39, 39] r with
      | nil => rw [hr] at ih; rw [← ih]; simp [unq]
      | cons d t => rw [unq, if_neg (by simp [h]), ← hr, ih]
theorem back (s : List UInt8) : replaceAll (replaceAll s [39] [39, 39]) [39, 39] [39] = s := by
  rw [replaceAll_repl (by simp), replaceAll_repl (by simp), repl_subst1, repl_unq, unq_subst]
end Go.Proofs.YtpanbeoelbhhgaaGreatDoor.Vtx
namespace Go.Proofs.YtpanbeoelbhhgaaGreatDoor.Vtx
open Go.Lib Dig
structure Q where
  k : Int
  n : Int
  s : List UInt8
  l : List Int
deriving DecidableEq
end Go.Proofs.YtpanbeoelbhhgaaGreatDoor.Vtx
namespace Go.Proofs.YtpanbeoelbhhgaaGreatDoor
open Go.RowKit Dig Vtx
abbrev Tab (w : World) : Prop := Lib.TabIs Tryz.prog w "internal/strconv.uint64pow10" .u64 Lib.pow10Tab
theorem Tab.below {w w' : World} (h : Tab w) (hb : Below w.heap.size w w') : Tab w' := by
  unfold Tab Lib.TabIs World.var? at *
  cases hg : Tryz.prog.globalNamed "internal/strconv.uint64pow10" with
  | none => rw [hg] at h; cases h
  | some g =>
    rw [hg] at h
    simp only [Option.bind_some] at h ⊢
    have hlt : g < w.heap.size := by
      rcases Nat.lt_or_ge g w.heap.size with h' | h'
      · exact h'
      · rw [Array.getElem?_eq_none h'] at h; cases h
    rw [hb.block g hlt]
    exact h
end Go.Proofs.YtpanbeoelbhhgaaGreatDoor
namespace Go.Proofs.YtpanbeoelbhhgaaGreatDoor
open Go.RowKit Dig Vtx
/-- the library's own variable holds some number -/
def Mx (w : World) : Prop := ∃ m, w.cell? ⟨1, 0, none⟩ = some (.int .i64 m)
theorem Mx.below {w w' : World} (h : Mx w) (hb : Below w.heap.size w w') : Mx w' := by
  obtain ⟨m, hm⟩ := h
  exact ⟨m, Below.cell_of hb hm⟩
end Go.Proofs.YtpanbeoelbhhgaaGreatDoor
namespace Go.Proofs.YtpanbeoelbhhgaaGreatDoor
open Go.RowKit
attribute [local go_sem ↓] Go.wp_at_zero Go.wp_at_succ
set_option maxHeartbeats 4000000
set_option maxRecDepth 100000
theorem cloneI (l : List Int) (A : Option Addr) (c B : Nat) (w : World) (hx : Reads w B 1 A l.length (numV .i64 l)) (hl : l.length ≤ 1099511627776) :
    Calls Tryz.prog 45 #[.slice A l.length c] w fun e w' => ∃ v, e = .returned v ∧ w'.ownsRow w.heap.size 3 1 v l.length (numV .i64 l) ∧ Below w.heap.size w w' := by
  rcases Nat.eq_zero_or_pos l.length with h0 | h0
  · have e1 := List.eq_nil_of_length_eq_zero h0
    subst e1
    cases A with
    | none => exact (Tryz.slices_Clone_int_nil 0 c w).mono fun _ _ ⟨he, hw⟩ => ⟨_, he, World.ownsRow_nil _ _ _ _, hw ▸ Below.refl _ _⟩
    | some a => exact (Tryz.slices_Clone_int_zero a c w).mono fun _ _ ⟨v, he, hr, _, hb⟩ => ⟨v, he, hr, hb⟩
  · obtain ⟨b, o, rfl, -, hc⟩ := hx.plain h0
    refine (Tryz.slices_Clone_int b o l.length c l w (Nat.le_refl _) (by omega) (fun j hj => by
      refine hc j _ ?_
      unfold numV
      rw [List.getElem?_map, List.getElem?_eq_getElem hj]
      simp [List.getD, hj])).mono fun _ _ ⟨v, he, hr, _, hb⟩ => ⟨v, he, ?_, hb⟩
    rw [List.take_length] at hr
    exact hr
theorem own_slice {w : World} {b size n : Nat} {e : TypeId} {v : Value} {xs : List Value} (h : w.ownsRow b e size v n xs) : ∃ A c, v = .slice A n c := by
  rcases h.2 with ⟨rfl, h0⟩ | ⟨g', cap, cur, e0, -⟩
  · exact ⟨none, 0, by first | rw [h0] | rw [h0.1]⟩
  · exact ⟨_, _, e0⟩
theorem own_set {w : World} {B size n : Nat} {e : TypeId} {v : Value} {xs : List Value} (h : w.ownsRow B e size v n xs) {p : Addr} (hp : p.block < B) (u : Value) : (w.setCell p u).ownsRow B e size v n xs := by
  refine ⟨h.1, h.2.imp id ?_⟩
  rintro ⟨g', cap, cur, e0, e1, e2, e3⟩
  exact ⟨g', cap, cur, e0, e1, (Below.heap_setCell w p u g' (by omega)).trans e2, e3⟩
/-- a value handed back whose set is its own -/
def TRet (b : Nat) (w : World) (v : Val) (x : Value) : Prop := ∃ A c, x = .agg #[.int .i64 v.k, .int .i64 v.n, .string v.s, .slice A v.l.length c] ∧ w.ownsRow b 3 1 (.slice A v.l.length c) v.l.length (numV .i64 v.l) ∧ v.s.size ≤ maxLen ∧ v.l.length ≤ maxLen
theorem own_base9 {w : World} {B B' size n : Nat} {e : TypeId} {v : Value} {xs : List Value} (h : w.ownsRow B e size v n xs) (hB : B' ≤ B) : w.ownsRow B' e size v n xs := by
  refine ⟨h.1, h.2.imp id ?_⟩
  rintro ⟨g', cap, cur, e0, e1, e2⟩
  exact ⟨g', cap, cur, e0, Nat.le_trans hB e1, e2⟩
theorem told_any (k n : Int) (s : ByteArray) (l : List Int) (kind : Int) (A : Option Addr) (c B : Nat) (w : World) (rx : Reads w B 1 A l.length (numV .i64 l)) (hB : B ≤ w.heap.size) (hs : s.size ≤ maxLen) (hl : l.length ≤ 1000000) :
    Calls Tryz.prog 19 #[.agg #[.int .i64 k, .int .i64 n, .string s, .slice A l.length c], .int .i64 kind] w fun e w' => (∃ x, e = .returned x ∧ TRet w.heap.size w' (toldV kind ⟨k, n, s, l⟩) x) ∧ Below w.heap.size w w' := by
  obtain ⟨len, hlen⟩ : ∃ n, l.length = n := ⟨_, rfl⟩
  by_cases hk : k = 0 ∧ kind = 7
  · have HV := Lib.hid (show toldV kind ⟨k, n, s, l⟩ = ⟨7, 0, ⟨#[]⟩, []⟩ by unfold toldV; rw [if_pos hk])
    obtain ⟨rfl, rfl⟩ := hk
    rw [hlen]
    obtain ⟨W, hW, hbw, BV, BR, hsz⟩ := box2 w 24 24 #[.int .i64 0, .int .i64 n, .string s, .slice A len c] #[.int .i64 0, .int .i64 0, .string ⟨#[]⟩, .slice none 0 0]
    obtain ⟨a0, y0, a1, y1, a2, y2, a3, y3⟩ := Blk.z4 BV
    obtain ⟨r0, s0, r1, s1, r2, s2, r3, s3⟩ := Blk.z4 BR
    clear rx hlen
    go_enter Tryz.func19, Tryz.ntmps19
    go_upto_region 1 with (fail)
    rw [← hW]
    clear hW
    go_wp2_with fail
    exact end4 Tryz.results19 rfl BR hbw (by omega) (fun W5 hW5 => ⟨⟨_, rfl, by rw [HV.out]; exact ⟨none, 0, rfl, World.ownsRow_nil _ _ _ _, Nat.zero_le _, Nat.zero_le _⟩⟩, hW5⟩)
  · have HV := Lib.hid (show toldV kind ⟨k, n, s, l⟩ = ⟨k, n, s, l⟩ by unfold toldV; rw [if_neg hk])
    by_cases hk1 : k = 0
    · have hk3 : (kind == 7) = false := by simpa using fun h => hk ⟨hk1, h⟩
      subst hk1
      clear hk
      obtain ⟨W, hW, hbw, BV, BR, hsz⟩ := box2 w 24 24 #[.int .i64 0, .int .i64 n, .string s, .slice A len c] #[.int .i64 0, .int .i64 0, .string ⟨#[]⟩, .slice none 0 0]
      have HC := Lib.hid (by
        have h := cloneI l A c B W (rx.below (hbw.mono hB)) (by omega)
        rw [hlen] at h
        exact h)
      have HLEN := Lib.hid hlen
      rw [hlen]
      obtain ⟨a0, y0, a1, y1, a2, y2, a3, y3⟩ := Blk.z4 BV
      clear rx hlen
      go_enter Tryz.func19, Tryz.ntmps19
      go_upto_region 1 with (fail)
      rw [← hW]
      clear hW
      go_wp2_with (go_at_call 45; refine HC.out.mono ?_; rintro e w2 ⟨u, rfl, ho, hb2⟩; obtain ⟨A', c', rfl⟩ := own_slice ho; have HO := Lib.hid ho; have hbw2 := hbw.trans (hb2.mono hbw.size); have BV2 := BV.below hb2 BV.lt; have B0 := BR.below hb2 BR.lt; obtain ⟨r0, s0, r1, s1, r2, s2, r3, s3⟩ := Blk.z4 B0; obtain ⟨a0, y0, a1, y1, a2, y2, a3, y3⟩ := Blk.z4 BV2)
      have hw3 := hbw2.setCell (p := ⟨w.heap.size, 3, none⟩) (Nat.le_refl _) (.slice A' len c')
      have hB3 := B0.far (p := ⟨w.heap.size, 3, none⟩) (by simp) (.slice A' len c')
      have ho3 := own_set HO.out (p := ⟨w.heap.size, 3, none⟩) (by simp; omega) (.slice A' len c')
      obtain ⟨W5, hW5, B9, hb9⟩ := set4_ex hB3 hw3 (Nat.le_succ _) (.int .i64 0) (.int .i64 n) (.string s) (.slice A' len c')
      have ho5 : W5.ownsRow W.heap.size 3 1 (.slice A' len c') len (numV .i64 l) := hW5 ▸ own_set (own_set (own_set (own_set ho3 (p := ⟨w.heap.size + 1, 0, none⟩) (by simp; omega) _) (p := ⟨w.heap.size + 1, 1, none⟩) (by simp; omega) _) (p := ⟨w.heap.size + 1, 2, none⟩) (by simp; omega) _) (p := ⟨w.heap.size + 1, 3, none⟩) (by simp; omega) _
      rw [← hW5]
      have q0 : W5.cell? ⟨w.heap.size + 1, 0, none⟩ = some (.int .i64 0) := B9.cell 0
      have q1 : W5.cell? ⟨w.heap.size + 1, 1, none⟩ = some (.int .i64 n) := B9.cell 1
      have q2 : W5.cell? ⟨w.heap.size + 1, 2, none⟩ = some (.string s) := B9.cell 2
      have q3 : W5.cell? ⟨w.heap.size + 1, 3, none⟩ = some (.slice A' len c') := B9.cell 3
      refine bodyPost_ret (v := .agg #[.int .i64 0, .int .i64 n, .string s, .slice A' len c']) (by simp [results, Tryz.results19, go_sem, q0, q1, q2, q3]) rfl ⟨⟨_, rfl, ?_⟩, hb9⟩
      rw [HV.out]
      exact ⟨A', c', by rw [HLEN.out], by rw [HLEN.out]; exact own_base9 ho5 hbw.size, hs, (show l.length ≤ maxLen by unfold maxLen; omega)⟩
    · have hk2 : (k == 0) = false := by simpa using hk1
      clear hk
      obtain ⟨W, hW, hbw, BV, BR, hsz⟩ := box2 w 24 24 #[.int .i64 k, .int .i64 n, .string s, .slice A len c] #[.int .i64 0, .int .i64 0, .string ⟨#[]⟩, .slice none 0 0]
      have HC := Lib.hid (by
        have h := cloneI l A c B W (rx.below (hbw.mono hB)) (by omega)
        rw [hlen] at h
        exact h)
      have HLEN := Lib.hid hlen
      rw [hlen]
      obtain ⟨a0, y0, a1, y1, a2, y2, a3, y3⟩ := Blk.z4 BV
      clear rx hlen
      go_enter Tryz.func19, Tryz.ntmps19
      go_upto_region 1 with (fail)
      rw [← hW]
      clear hW
      go_wp2_with (go_at_call 45; refine HC.out.mono ?_; rintro e w2 ⟨u, rfl, ho, hb2⟩; obtain ⟨A', c', rfl⟩ := own_slice ho; have HO := Lib.hid ho; have hbw2 := hbw.trans (hb2.mono hbw.size); have BV2 := BV.below hb2 BV.lt; have B0 := BR.below hb2 BR.lt; obtain ⟨r0, s0, r1, s1, r2, s2, r3, s3⟩ := Blk.z4 B0; obtain ⟨a0, y0, a1, y1, a2, y2, a3, y3⟩ := Blk.z4 BV2)
      have hw3 := hbw2.setCell (p := ⟨w.heap.size, 3, none⟩) (Nat.le_refl _) (.slice A' len c')
      have hB3 := B0.far (p := ⟨w.heap.size, 3, none⟩) (by simp) (.slice A' len c')
      have ho3 := own_set HO.out (p := ⟨w.heap.size, 3, none⟩) (by simp; omega) (.slice A' len c')
      obtain ⟨W5, hW5, B9, hb9⟩ := set4_ex hB3 hw3 (Nat.le_succ _) (.int .i64 k) (.int .i64 n) (.string s) (.slice A' len c')
      have ho5 : W5.ownsRow W.heap.size 3 1 (.slice A' len c') len (numV .i64 l) := hW5 ▸ own_set (own_set (own_set (own_set ho3 (p := ⟨w.heap.size + 1, 0, none⟩) (by simp; omega) _) (p := ⟨w.heap.size + 1, 1, none⟩) (by simp; omega) _) (p := ⟨w.heap.size + 1, 2, none⟩) (by simp; omega) _) (p := ⟨w.heap.size + 1, 3, none⟩) (by simp; omega) _
      rw [← hW5]
      have q0 : W5.cell? ⟨w.heap.size + 1, 0, none⟩ = some (.int .i64 k) := B9.cell 0
      have q1 : W5.cell? ⟨w.heap.size + 1, 1, none⟩ = some (.int .i64 n) := B9.cell 1
      have q2 : W5.cell? ⟨w.heap.size + 1, 2, none⟩ = some (.string s) := B9.cell 2
      have q3 : W5.cell? ⟨w.heap.size + 1, 3, none⟩ = some (.slice A' len c') := B9.cell 3
      refine bodyPost_ret (v := .agg #[.int .i64 k, .int .i64 n, .string s, .slice A' len c']) (by simp [results, Tryz.results19, go_sem, q0, q1, q2, q3]) rfl ⟨⟨_, rfl, ?_⟩, hb9⟩
      rw [HV.out]
      exact ⟨A', c', by rw [HLEN.out], by rw [HLEN.out]; exact own_base9 ho5 hbw.size, hs, (show l.length ≤ maxLen by unfold maxLen; omega)⟩
end Go.Proofs.YtpanbeoelbhhgaaGreatDoor
namespace Go.Proofs.YtpanbeoelbhhgaaGreatDoor
open Go.RowKit
attribute [local go_sem ↓] Go.wp_at_zero Go.wp_at_succ
set_option maxHeartbeats 4000000
set_option maxRecDepth 100000
/-- what an evaluation stands on -/
structure EvW (w : World) (S : SceneD) (B0 gs m1 m2 m3 m4 : Nat) (kv1 kv2 kv3 kv4 : List (ByteArray × Value)) : Prop where
  si : SiAt w B0 gs m1 m2 m3 m4 kv1 kv2 kv3 kv4 S.cells S.loops S.bounds S.rows
  tab : Tab10 w
  mx : Mx w
theorem EvW.keep {w w' : World} {S : SceneD} {B0 gs m1 m2 m3 m4 : Nat} {kv1 kv2 kv3 kv4 : List (ByteArray × Value)} (h : EvW w S B0 gs m1 m2 m3 m4 kv1 kv2 kv3 kv4) (hb : Below w.heap.size w w') : EvW w' S B0 gs m1 m2 m3 m4 kv1 kv2 kv3 kv4 := ⟨h.si.keep hb, h.tab.below hb, h.mx.below hb⟩
theorem EvW.le {w : World} {S : SceneD} {B0 gs m1 m2 m3 m4 : Nat} {kv1 kv2 kv3 kv4 : List (ByteArray × Value)} (h : EvW w S B0 gs m1 m2 m3 m4 kv1 kv2 kv3 kv4) : B0 ≤ w.heap.size := h.si.ne.2.2.2.2.2.2.2.2.2
/-- what eval does at an expression -/
def EvSpec (S : SceneD) (B0 gs m1 m2 m3 m4 : Nat) (kv1 kv2 kv3 kv4 : List (ByteArray × Value)) (e : Ex) : Prop := ∀ (at_ : List ByteArray) (row : List Int) (Aa R : Option Addr) (ca cr B1 : Nat) (cs : List Value) (w : World), EvW w S B0 gs m1 m2 m3 m4 kv1 kv2 kv3 kv4 → ExAt w B0 e cs → StrsAt w B1 Aa at_ → Reads w B1 1 R row.length (numV .i64 row) → B1 ≤ w.heap.size → at_.length = row.length → at_.length ≤ ca → row.length ≤ cr → row.length ≤ 1048577 → codesOk row → (e.kind S.cells S.loops at_).2 = 0 →
  Calls Tryz.prog 20 #[.pointer (some ⟨gs, 0, none⟩), .agg cs.toArray, .slice Aa at_.length ca, .slice R row.length cr] w fun en w' => (∃ x, en = .returned x ∧ VRet w' B0 (e.val S at_ row) x) ∧ Below w.heap.size w w'
/-- what the map of rows gives -/
theorem rows_get {S : SceneD} (hS : ScOk S) {w : World} {B : Nat} {kv : List (ByteArray × Value)} (hkv : KvR w B kv S.rows) {nm : ByteArray} {row : List Int} (hn : noSp nm) (hr : codesOk row) :
    ∃ A c, ((getK kv ⟨(rowKeyL nm.data.toList row).toArray⟩).getD (.slice none 0 0)) = .slice A (findR S.rows nm row).length c ∧ Reads w B 1 A (findR S.rows nm row).length (numV .i64 (findR S.rows nm row)) ∧ (findR S.rows nm row).length ≤ 999 ∧ codesOk (findR S.rows nm row) := by
  unfold findR
  rcases look_rows hS hkv hn hr with ⟨h1, h2⟩ | ⟨d, A, c, h1, h2, -, hm, h3⟩
  · rw [h1, h2]
    exact ⟨none, 0, rfl, Reads.none_, Nat.zero_le _, fun n h => by cases h⟩
  · rw [h1, h3]
    obtain ⟨-, -, -, -, -, h4⟩ := hS.r d hm
    exact ⟨A, c, rfl, h2, nums_len0 h4, nums_codes h4⟩
theorem zeroRow (w : World) : (zeroValue 22).run Tryz.prog w = .ok (.slice none 0 0) w := by kernel_rfl
theorem infoVal : (Tryz.prog.info? 24).map (fun i => (i.zero, i.size, i.bytes)) = some (some (.agg #[.int .i64 0, .int .i64 0, .string ByteArray.empty, .slice none 0 0]), 4, 56) := by kernel_rfl
end Go.Proofs.YtpanbeoelbhhgaaGreatDoor
namespace Go.Proofs.YtpanbeoelbhhgaaGreatDoor
open Go.RowKit
attribute [local go_sem ↓] Go.wp_at_zero Go.wp_at_succ
set_option maxHeartbeats 4000000
set_option maxRecDepth 100000
theorem dated_3 (v u : Val) (b o B0 n cap : Nat) (A A' : Option Addr) (c c' : Nat) (w : World) (hv : ValCells w B0 b o v A c) (hu : ValCells w B0 b (o + 4) u A' c') (hb : b < w.heap.size) (hn : 1 < n) (_hm : n ≤ maxLen) (hd : dB v.n) (hdu : nB u.n) :
    Calls Tryz.prog 83 #[.int .i64 39, .slice (some ⟨b, o, none⟩) n cap] w fun e w' => e = .returned (vz (datedV 39 v u)) ∧ Below w.heap.size w w' := by
  have HCa := Lib.hid (fun w => civil_any v.n w hd.1 hd.2)
  have HV : Hid (datedV 39 v u = if u.n.tmod 10000 = 0 then dayV (v.n + u.n.tdiv 10000) else zeroV) := Lib.hid (by unfold datedV; simp)
  obtain ⟨x, hx⟩ : ∃ x, v.n = x := ⟨_, rfl⟩
  obtain ⟨z, hz⟩ : ∃ x, u.n = x := ⟨_, rfl⟩
  have e1 := hv.c1
  have e2 := hu.c1
  rw [hx] at e1 HCa HV
  rw [hz] at e2 HV
  obtain ⟨kd1, kd2⟩ := hd
  obtain ⟨ku1, ku2⟩ := hdu
  rw [hx] at kd1 kd2
  rw [hz] at ku1 ku2
  obtain ⟨W, hW⟩ : ∃ W, W = w.alloc (.cells #[.int .i64 0, .int .i64 0, .string ⟨#[]⟩, .slice none 0 0] 24 (0, 0)) := ⟨_, rfl⟩
  have hbw : Below w.heap.size w W := hW ▸ below_a w _
  have BR : Blk W w.heap.size 24 #[.int .i64 0, .int .i64 0, .string ⟨#[]⟩, .slice none 0 0] := hW ▸ Blk.new w _ _
  have f1 : W.cell? ⟨b, o + 1, none⟩ = some (.int .i64 x) := (hbw.cell hb).trans e1
  have f2 : W.cell? ⟨b, o + 4 + 1, none⟩ = some (.int .i64 z) := (hbw.cell hb).trans e2
  have hn0 : (0 : Int) < (n : Nat) := by omega
  have hn1 : (1 : Int) < (n : Nat) := by omega
  clear hv hu hx hz e1 e2
  by_cases hz : z.tmod 10000 = 0
  · have HV := Lib.hid (HV.out.trans (if_pos hz))
    obtain ⟨q, hq⟩ : ∃ q, z.tdiv 10000 = q := ⟨_, rfl⟩
    have hqb : z = 10000 * q := by
      have := Int.mul_tdiv_add_tmod z 10000
      rw [hz, hq] at this; omega
    rw [hq] at HV
    have HWP := Lib.hid (show IntKind.i64.wrap (x + IntKind.i64.wrap q) = x + q by simp [IntKind.wrap, IntKind.signed, IntKind.bits]; omega)
    have HWP2 := Lib.hid (show IntKind.i64.wrap (x + q) = x + q by simp [IntKind.wrap, IntKind.signed, IntKind.bits]; omega)
    clear hq
    go_enter Tryz.func83, Tryz.ntmps83
    go_upto_region 1 with (fail)
    rw [← hW]
    clear hW
    go_wp2_with (first | (go_at_call 123; refine (HCa.out _).mono ?_; rintro e w1 ⟨rfl, rfl⟩))
    go_region_with (go_at_call 125; refine (dayValue_any _ _).mono ?_; rintro e w2 ⟨rfl, hb2⟩; have B0 := BR.drew.below hb2 BR.lt; obtain ⟨r0, s0, r1, s1, r2, s2, r3, s3⟩ := Blk.z4 B0; (first | rw [HWP.out] | rw [HWP2.out] | skip); unfold vz)
    all_goals go_wp2_with fail
    all_goals exact end4 Tryz.results83 rfl B0 (hbw.trans ((Below.refl _ W).drew.trans hb2 |>.mono hbw.size)) (Nat.le_refl _) (fun W5 hW5 => ⟨ret_val (by rw [HV.out]; rfl), hW5⟩)
  · have HV := Lib.hid (HV.out.trans (if_neg hz))
    go_enter Tryz.func83, Tryz.ntmps83
    go_upto_region 1 with (fail)
    rw [← hW]
    clear hW
    obtain ⟨r0, s0, r1, s1, r2, s2, r3, s3⟩ := Blk.z4 BR
    go_wp2_with (first | (go_at_call 123; refine (HCa.out _).mono ?_; rintro e w1 ⟨rfl, rfl⟩))
    all_goals exact end4 Tryz.results83 rfl BR hbw (Nat.le_refl _) (fun W5 hW5 => ⟨ret_val (by rw [HV.out]; rfl), hW5⟩)
end Go.Proofs.YtpanbeoelbhhgaaGreatDoor
namespace Go.Proofs.YtpanbeoelbhhgaaGreatDoor
open Go.RowKit
attribute [local go_sem ↓] Go.wp_at_zero Go.wp_at_succ
set_option maxHeartbeats 4000000
set_option maxRecDepth 100000
/-- a row of bytes -/
structure ByRow (w : World) (g : Nat) (l : List UInt8) : Prop where
  ex : ∃ (cs : Array Value) (N : Nat), w.heap[g]? = some (.cells cs 5 (N, N + 1)) ∧ cs.size = N ∧ l.length ≤ N ∧ ∀ j (h : j < l.length), cs[j]? = some (.int .u8 (l[j].toNat : Nat))
theorem ByRow.lt {w : World} {g : Nat} {l : List UInt8} (h : ByRow w g l) : g < w.heap.size := by
  obtain ⟨cs, N, h1, -⟩ := h.ex
  rcases Nat.lt_or_ge g w.heap.size with hlt | hge
  · exact hlt
  · rw [Array.getElem?_eq_none hge] at h1; cases h1
theorem ByRow.cell {w : World} {g : Nat} {l : List UInt8} (h : ByRow w g l) {j : Nat} (hj : j < l.length) : w.cell? ⟨g, j, none⟩ = some (.int .u8 (l[j].toNat : Nat)) ∧ w.frozen? ⟨g, j, none⟩ = false := by
  obtain ⟨cs, N, h1, h2, h3, h4⟩ := h.ex
  exact ⟨(cell_of_row w g j cs 5 (N, N + 1) h1).trans (h4 j hj), by simp [World.frozen?, h1]; omega⟩
theorem ByRow.set_ {w : World} {g : Nat} {l : List UInt8} (h : ByRow w g l) {j : Nat} (hj : j < l.length) (c : UInt8) : ByRow (w.setCell ⟨g, j, none⟩ (.int .u8 (c.toNat : Nat))) g (l.set j c) := by
  obtain ⟨cs, N, h1, h2, h3, h4⟩ := h.ex
  refine ⟨cs.setIfInBounds j (.int .u8 (c.toNat : Nat)), N, by simp [World.setCell, Array.getElem?_modify, h1], by simpa using h2, by simpa using h3, fun k hk => ?_⟩
  rw [List.length_set] at hk
  rw [List.getElem_set]
  by_cases e : j = k
  · subst e
    rw [if_pos rfl, Array.getElem?_setIfInBounds_self_of_lt (by omega)]
  · rw [if_neg e, Array.getElem?_setIfInBounds_ne e]
    exact h4 k hk
theorem ByRow.new (w : World) (s : ByteArray) : ByRow (Lib.bytesWorld w 5 s) w.heap.size s.data.toList := by
  refine ⟨_, _, Lib.bytesWorld_at_new w 5 s, rfl, ?_, fun j hj => ?_⟩
  · unfold Lib.bytesCells; simp
  · have hj' : j < s.size := by simpa using hj
    have h := Lib.bytesWorld_cell w 5 s j hj'
    rw [cell_of_row _ _ j _ 5 _ (Lib.bytesWorld_at_new w 5 s)] at h
    rw [h]
    simp [List.getD, hj']
theorem bytesBelow (w : World) (s : ByteArray) : Below w.heap.size w (Lib.bytesWorld w 5 s) := by
  have h1 : Below w.heap.size w (w.drew.alloc (.cells (Lib.bytesCells w 5 s) 5)) := (Below.refl _ w).drew.alloc (Nat.le_refl _) _
  exact ⟨by simpa [Lib.bytesWorld, World.freeze] using h1.os, by simp [Lib.bytesWorld, World.freeze], by simpa [Lib.bytesWorld, World.freeze] using h1.output, by rw [Lib.bytesWorld_size]; omega, fun j hj => Lib.bytesWorld_at_old w 5 s j hj⟩
theorem lowC_hi {c : UInt8} (h1 : 65 ≤ (c.toNat : Int)) (h2 : (c.toNat : Int) ≤ 90) : (((lowC c).toNat : Nat) : Int) = c.toNat + 32 := by
  unfold lowC
  rw [if_pos ⟨by omega, by omega⟩]
  have : (c + 32).toNat = c.toNat + 32 := by rw [UInt8.toNat_add]; simp; omega
  omega
theorem lowC_no {c : UInt8} (h : ¬ (65 ≤ (c.toNat : Int) ∧ (c.toNat : Int) ≤ 90)) : lowC c = c := by
  unfold lowC
  rw [if_neg (fun q => h ⟨by omega, by omega⟩)]
theorem low_step (l : List UInt8) (k : Nat) (hk : k < l.length) : ((l.take k).map lowC ++ l.drop k).set k (lowC l[k]) = (l.take (k + 1)).map lowC ++ l.drop (k + 1) := by
  rw [List.drop_eq_getElem_cons hk, List.take_succ_eq_append_getElem hk, List.map_append]
  rw [List.set_append_right _ _ (by simp; omega)]
  simp only [List.length_map, List.length_take, Nat.min_eq_left (Nat.le_of_lt hk), Nat.sub_self, List.set_cons_zero, List.map_cons, List.map_nil, List.append_assoc, List.cons_append, List.nil_append]
theorem low_at (l : List UInt8) (k : Nat) (hk : k < l.length) : ∃ h, ((l.take k).map lowC ++ l.drop k)[k]'h = l[k] := by
  refine ⟨by simp; omega, ?_⟩
  rw [List.getElem_append_right (by simp; omega)]
  simp [Nat.min_eq_left (Nat.le_of_lt hk)]
theorem lowS_size (s : ByteArray) : (lowS s).size = s.data.toList.length := by
  show ((s.data.toList.map lowC).toArray).size = _
  simp
theorem lowered_any (s : ByteArray) (w : World) (hs : s.size ≤ 1000000) :
    Calls Tryz.prog 126 #[.string s] w fun e w' => e = .returned (.string (lowS s)) ∧ Below w.heap.size w w' := by
  have kc := Lib.run_convert_string_bytes (P := Tryz.prog) w 9 129 5 s Tryz.underlying9 Tryz.underlying129 Tryz.underlying5
  obtain ⟨cap, hcap⟩ : ∃ c, grownCap w s.size 0 5 = c := ⟨_, rfl⟩
  obtain ⟨l, hl⟩ : ∃ l, s.data.toList = l := ⟨_, rfl⟩
  have hsl : s.size = l.length := by rw [← hl]; simp
  have hB0 : ByRow (Lib.bytesWorld w 5 s) w.heap.size l := hl ▸ ByRow.new w s
  have hb0 := bytesBelow w s
  rw [hcap] at kc
  obtain ⟨W, hW⟩ : ∃ W, Lib.bytesWorld w 5 s = W := ⟨_, rfl⟩
  rw [hW] at kc hB0 hb0
  rw [hsl] at kc hs
  have HEND := Lib.hid (show ∀ w' : World, ByRow w' w.heap.size (l.map lowC) → (convert 129 9 (.slice (some ⟨w.heap.size, 0, none⟩) l.length cap)).run Tryz.prog w' = .ok (.string (lowS s)) w' from fun w' hw => by
    have h := Lib.run_convert_whole (P := Tryz.prog) w' 129 5 9 Tryz.underlying129 Tryz.underlying5 Tryz.underlying9 w.heap.size 0 (lowS s) (fun i hi => by
      have hi' : i < (l.map lowC).length := by rw [lowS_size, hl] at hi; simpa using hi
      rw [Nat.zero_add, (hw.cell hi').1]
      congr 2
      have : (lowS s)[i] = (l.map lowC)[i] := by
        subst hl
        simp [lowS, ByteArray.getElem_eq_getElem_data]
      rw [this]) cap
    have e : (lowS s).size = l.length := by rw [lowS_size, hl]
    rw [e] at h
    exact h)
  clear hW hcap hsl
  go_enter Tryz.func126, Tryz.ntmps126
  go_wp2_with fail
  go_loopw [10, 4, 5] (fun i _ _ wr => ∃ k : Nat, k ≤ l.length ∧ i = .int .i64 k ∧ ByRow wr w.heap.size ((l.take k).map lowC ++ l.drop k) ∧ Below w.heap.size w wr) (fun i _ _ _ => l.length - (intOf i).toNat)
  case atStart => exact ⟨0, Nat.zero_le _, rfl, by simpa using hB0, hb0⟩
  case round =>
    clear hB0 hb0
    obtain ⟨k, hk, rfl, hB, hbr⟩ := hrel
    by_cases hlt : k < l.length
    · obtain ⟨hk2, he⟩ := low_at l k hlt
      have hc := hB.cell hk2
      rw [he] at hc
      have HSET := Lib.hid (fun c => hB.set_ hk2 c)
      have HST := Lib.hid (low_step l k hlt)
      obtain ⟨c, hcc⟩ : ∃ c, l[k] = c := ⟨_, rfl⟩
      rw [hcc] at hc HST
      obtain ⟨c1, c2⟩ := hc
      have hltI : (k : Int) < (l.length : Nat) := by omega
      have hc256 : (c.toNat : Int) < 256 := by have := c.toNat_lt; omega
      have HNX := Lib.hid (show ∀ W' : World, lowC c = c → ByRow wr w.heap.size ((l.take k).map lowC ++ l.drop k) → ByRow wr w.heap.size ((l.take (k + 1)).map lowC ++ l.drop (k + 1)) from fun _ e h => by
        rw [← HST.out, e, ← hcc, ← he, List.set_getElem_self]
        exact h)
      have HB := Lib.hid hB
      have HLT := Lib.hid hlt
      clear hB he hcc hlt hk2
      by_cases h1 : 65 ≤ (c.toNat : Int) ∧ (c.toNat : Int) ≤ 90
      · have HLO := Lib.hid (lowC_hi h1.1 h1.2)
        obtain ⟨h11, h12⟩ := h1
        go_wp2_with fail
        rw [show (c.toNat : Int) + 97 - 65 = ((lowC c).toNat : Nat) by rw [HLO.out]; omega]
        go_roundw
        case rel => exact ⟨k + 1, HLT.out, by go_num, HST.out ▸ HSET.out (lowC c), hbr.setCell (p := ⟨w.heap.size, k, none⟩) (Nat.le_refl _) _⟩
        case measure =>
          have := HLT.out
          simp [intOf]
          omega
      · have HLO := Lib.hid (lowC_no h1)
        have h12 : 65 ≤ (c.toNat : Int) → ¬ (c.toNat : Int) ≤ 90 := fun a b => h1 ⟨a, b⟩
        clear h1
        by_cases h11 : 65 ≤ (c.toNat : Int)
        case' pos => replace h12 := h12 h11
        case' neg => clear h12
        all_goals
          go_wp2_with fail
          go_roundw
          case rel => exact ⟨k + 1, HLT.out, by go_num, HNX.out wr HLO.out HB.out, hbr⟩
          case measure =>
            have := HLT.out
            simp [intOf]
            omega
    · have hE : k = l.length := by omega
      subst hE
      have kc2 := HEND.out wr (by simpa using hB)
      go_wp2_with fail
      go_ret
      exact ⟨rfl, hbr⟩
theorem worded_1 (v : Val) (b o B0 n cap : Nat) (A : Option Addr) (c : Nat) (w : World) (hv : ValCells w B0 b o v A c) (hb : b < w.heap.size) (hn : 0 < n) (_hm : n ≤ maxLen) (hs : v.s.size ≤ 1000000) :
    Calls Tryz.prog 84 #[.int .i64 30, .slice (some ⟨b, o, none⟩) n cap] w fun e w' => (∃ x, e = .returned x ∧ VRet w' B0 (wordedV 30 v zeroV) x) ∧ Below w.heap.size w w' := by
  have HLW := Lib.hid (fun w => lowered_any v.s w hs)
  obtain ⟨s, hs1⟩ : ∃ s, v.s = s := ⟨_, rfl⟩
  obtain ⟨t, ht⟩ : ∃ t, lowS s = t := ⟨_, rfl⟩
  have HV := Lib.hid (show wordedV 30 v zeroV = if 200 < t.size then zeroV else ⟨3, 0, t, []⟩ by unfold wordedV; rw [show wordS 30 v zeroV = t by unfold wordS; rw [if_neg (by decide), hs1, ht]])
  have e1 := hv.c2
  rw [hs1] at e1 HLW
  rw [ht] at HLW
  obtain ⟨W, hW⟩ : ∃ W, W = w.alloc (.cells #[.int .i64 0, .int .i64 0, .string ⟨#[]⟩, .slice none 0 0] 24 (0, 0)) := ⟨_, rfl⟩
  have hbw : Below w.heap.size w W := hW ▸ below_a w _
  have BR : Blk W w.heap.size 24 #[.int .i64 0, .int .i64 0, .string ⟨#[]⟩, .slice none 0 0] := hW ▸ Blk.new w _ _
  have f1 : W.cell? ⟨b, o + 2, none⟩ = some (.string s) := (hbw.cell hb).trans e1
  have hn0 : (0 : Int) < (n : Nat) := by omega
  clear hv hs1 ht e1
  by_cases h2 : 200 < t.size
  case' pos =>
    have h3 : 200 < (t.size : Int) := by omega
    have HV := Lib.hid (HV.out.trans (if_pos h2))
  case' neg =>
    have h3 : ¬ 200 < (t.size : Int) := by omega
    have HV := Lib.hid (HV.out.trans (if_neg h2))
  all_goals
    have HT : Hid (200 < t.size ∨ t.size ≤ 200) := Lib.hid (by omega)
    have HT2 := Lib.hid h2
    clear h2
    go_enter Tryz.func84, Tryz.ntmps84
    go_upto_region 1 with (fail)
    rw [← hW]
    clear hW
    go_wp2_with (go_at_call 126; refine (HLW.out _).mono ?_; rintro e w2 ⟨rfl, hb2⟩; have B0 := BR.below hb2 BR.lt; obtain ⟨r0, s0, r1, s1, r2, s2, r3, s3⟩ := Blk.z4 B0)
  all_goals first
    | exact end4 Tryz.results84 rfl B0 (hbw.trans (hb2.mono hbw.size)) (Nat.le_refl _) (fun W5 hW5 => ⟨⟨_, rfl, by rw [HV.out]; exact VRet.zero⟩, hW5⟩)
    | exact end4 Tryz.results84 rfl B0 (hbw.trans (hb2.mono hbw.size)) (Nat.le_refl _) (fun W5 hW5 => ⟨⟨_, rfl, by rw [HV.out]; exact VRet.bare rfl (show t.size ≤ maxLen by have := HT2.out; unfold maxLen; omega)⟩, hW5⟩)
theorem end4d {fn : Func} {s : Tmp} {tmps : Array Value} {w w4 : World} {g b : Nat} {c0 c1 c2 c3 a0 a1 a2 a3 : Value} {Q : Ending → World → Prop} (hr : fn.results = #[.cell s 24]) (hs : tmps[s]?.getD undef = .pointer (some ⟨g, 0, none⟩)) (B : Blk w4 g 24 #[c0, c1, c2, c3]) (hb : Below b w w4) (hg : b ≤ g) (h : ∀ W, Below b w W → Q (.returned (.agg #[a0, a1, a2, a3])) W) :
    bodyPost Tryz.prog fn Q Exit.ret { tmps := tmps, defers := [] } ((((w4.setCell ⟨g, 0, none⟩ a0).setCell ⟨g, 1, none⟩ a1).setCell ⟨g, 2, none⟩ a2).setCell ⟨g, 3, none⟩ a3).drew := by
  obtain ⟨W, hW, B9, hb9⟩ := set4_ex B hb hg a0 a1 a2 a3
  rw [← hW]
  have q0 : W.drew.cell? ⟨g, 0, none⟩ = some a0 := B9.drew.cell 0
  have q1 : W.drew.cell? ⟨g, 1, none⟩ = some a1 := B9.drew.cell 1
  have q2 : W.drew.cell? ⟨g, 2, none⟩ = some a2 := B9.drew.cell 2
  have q3 : W.drew.cell? ⟨g, 3, none⟩ = some a3 := B9.drew.cell 3
  exact bodyPost_ret (v := .agg #[a0, a1, a2, a3]) (by simp [results, hr, go_sem, hs, q0, q1, q2, q3]) rfl (h W.drew hb9.drew)
theorem worded_2 (v u : Val) (b o B0 n cap : Nat) (A A' : Option Addr) (c c' : Nat) (w : World) (hv : ValCells w B0 b o v A c) (hu : ValCells w B0 b (o + 4) u A' c') (hb : b < w.heap.size) (hn : 1 < n) (_hm : n ≤ maxLen) (hs : v.s.size ≤ 1000000) (hsu : u.s.size ≤ 1000000) :
    Calls Tryz.prog 84 #[.int .i64 31, .slice (some ⟨b, o, none⟩) n cap] w fun e w' => (∃ x, e = .returned x ∧ VRet w' B0 (wordedV 31 v u) x) ∧ Below w.heap.size w w' := by
  have HLW := Lib.hid (fun w => lowered_any v.s w hs)
  obtain ⟨s, hs1⟩ : ∃ s, v.s = s := ⟨_, rfl⟩
  obtain ⟨r, hr⟩ : ∃ s, u.s = s := ⟨_, rfl⟩
  obtain ⟨t, ht⟩ : ∃ t, s ++ r = t := ⟨_, rfl⟩
  have HV := Lib.hid (show wordedV 31 v u = if 200 < t.size then zeroV else ⟨3, 0, t, []⟩ by unfold wordedV; rw [show wordS 31 v u = t by unfold wordS; rw [if_pos rfl, hs1, hr, ht]])
  have e1 := hv.c2
  have e2 := hu.c2
  rw [hs1] at e1 HLW hs
  rw [hr] at e2 hsu
  obtain ⟨W, hW⟩ : ∃ W, W = w.alloc (.cells #[.int .i64 0, .int .i64 0, .string ⟨#[]⟩, .slice none 0 0] 24 (0, 0)) := ⟨_, rfl⟩
  have hbw : Below w.heap.size w W := hW ▸ below_a w _
  have BR : Blk W w.heap.size 24 #[.int .i64 0, .int .i64 0, .string ⟨#[]⟩, .slice none 0 0] := hW ▸ Blk.new w _ _
  have f1 : W.cell? ⟨b, o + 2, none⟩ = some (.string s) := (hbw.cell hb).trans e1
  have f2 : W.cell? ⟨b, o + 4 + 2, none⟩ = some (.string r) := (hbw.cell hb).trans e2
  have hbW : b < W.heap.size := Nat.lt_of_lt_of_le hb hbw.size
  have hn0 : (0 : Int) < (n : Nat) := by omega
  have hn1 : (1 : Int) < (n : Nat) := by omega
  have htz : t.size = s.size + r.size := by rw [← ht]; exact ByteArray.size_append
  clear hv hu hs1 hr e1 e2
  by_cases h2 : 200 < t.size
  case' pos =>
    have h3 : 200 < (s.size : Int) + (r.size : Int) := by omega
    have HV := Lib.hid (HV.out.trans (if_pos h2))
  case' neg =>
    have h3 : ¬ 200 < (s.size : Int) + (r.size : Int) := by omega
    have HV := Lib.hid (HV.out.trans (if_neg h2))
  all_goals
    have HT2 := Lib.hid h2
    clear h2
    go_enter Tryz.func84, Tryz.ntmps84
    go_upto_region 1 with (fail)
    rw [← hW]
    clear hW
    go_upto_region 3 with (go_at_call 126; refine (HLW.out _).mono ?_; rintro e w2 ⟨rfl, hb2⟩; have B0 := BR.below hb2 BR.lt; obtain ⟨r0, s0, r1, s1, r2, s2, r3, s3⟩ := Blk.z4 B0; have g1 := (hb2.cell hbW).trans f1; have g2 := (hb2.cell hbW).trans f2)
    go_region
    all_goals go_wp2_with fail
  all_goals first
    | exact end4d Tryz.results84 rfl B0 (hbw.trans (hb2.mono hbw.size)) (Nat.le_refl _) (fun W5 hW5 => ⟨⟨_, rfl, by rw [HV.out]; exact VRet.zero⟩, hW5⟩)
    | exact end4d Tryz.results84 rfl B0 (hbw.trans (hb2.mono hbw.size)) (Nat.le_refl _) (fun W5 hW5 => ⟨⟨_, rfl, by rw [HV.out]; exact VRet.bare rfl (show t.size ≤ maxLen by have := HT2.out; unfold maxLen; omega)⟩, hW5⟩)
end Go.Proofs.YtpanbeoelbhhgaaGreatDoor
namespace Go.Proofs.YtpanbeoelbhhgaaGreatDoor
open Go.RowKit
attribute [local go_sem ↓] Go.wp_at_zero Go.wp_at_succ
set_option maxHeartbeats 4000000
set_option maxRecDepth 100000
theorem containsInt_any (A : Option Addr) (c B : Nat) (l : List Int) (x : Int) (w : World) (hn : l.length ≤ maxLen) (hx : Reads w B 1 A l.length (numV .i64 l)) :
    Calls Tryz.prog 119 #[.slice A l.length c, .int .i64 x] w fun e w' => e = .returned (.bool (l.contains x)) ∧ w' = w := by
  unfold maxLen at hn
  rcases Nat.eq_zero_or_pos l.length with h0 | h0
  · have e : l = [] := List.eq_nil_of_length_eq_zero h0
    subst e
    exact Tryz.slices_Contains_int_empty A c x w
  · obtain ⟨b, o, rfl, hb, hc⟩ := hx.plain h0
    have h := Tryz.slices_Contains_int b o l.length c l x w (Nat.le_refl _) (by omega) (fun j hj => by
      refine hc j _ ?_
      unfold numV
      rw [List.getElem?_map, List.getElem?_eq_getElem hj]
      simp [List.getD, hj])
    rw [List.take_length] at h
    exact h
theorem compared_any (op : Int) (x y : Val) (A A' : Option Addr) (c c' B0 : Nat) (w : World) (hx : VAt w B0 x [.int .i64 x.k, .int .i64 x.n, .string x.s, .slice A x.l.length c]) (hy : VAt w B0 y [.int .i64 y.k, .int .i64 y.n, .string y.s, .slice A' y.l.length c']) (hB : B0 ≤ w.heap.size) (hs : x.s.size ≤ 1000000) (hm : Mx w) (ho : 4 ≤ op ∧ op ≤ 11 ∨ op = 32 ∨ op = 33) :
    Calls Tryz.prog 81 #[.int .i64 op, .agg #[.int .i64 x.k, .int .i64 x.n, .string x.s, .slice A x.l.length c], .agg #[.int .i64 y.k, .int .i64 y.n, .string y.s, .slice A' y.l.length c']] w fun e w' => e = .returned (.bool (comparedB op x y)) ∧ Below w.heap.size w w' := by
  obtain ⟨⟨A1, c1, e1, rx⟩, -, hx2⟩ := hx
  obtain ⟨⟨A2, c2, e2, ry⟩, -, hy2⟩ := hy
  simp only [List.cons.injEq, Value.slice.injEq, and_true, true_and] at e1 e2
  obtain ⟨rfl, rfl⟩ := e1
  obtain ⟨rfl, rfl⟩ := e2
  have HV : Hid (comparedB op x y = if op = 4 then decide (cmpV x y = 0) else if op = 5 then decide (cmpV x y ≠ 0) else if op = 6 then decide (cmpV x y < 0) else if op = 7 then decide (cmpV x y ≤ 0) else
      if op = 8 then decide (0 < cmpV x y) else if op = 9 then decide (0 ≤ cmpV x y) else if op = 10 then y.l.contains x.n else if op = 11 then x.l.contains y.n else
      if op = 32 then Lib.hasPrefix x.s.data.toList y.s.data.toList else Lib.contains x.s.data.toList y.s.data.toList) := Lib.hid rfl
  obtain ⟨W, hW⟩ : ∃ W, W = (w.alloc (.cells #[.int .i64 x.k, .int .i64 x.n, .string x.s, .slice A x.l.length c] 24 (0, 0))).alloc (.cells #[.int .i64 y.k, .int .i64 y.n, .string y.s, .slice A' y.l.length c'] 24 (0, 0)) := ⟨_, rfl⟩
  have hbw : Below w.heap.size w W := hW ▸ (below_a w _).alloc (by simp) _
  have HC := Lib.hid (compare_any x y A A' c c' B0 B0 W hx2 hy2 (rx.below (hbw.mono hB)) (ry.below (hbw.mono hB)) (Nat.le_trans hB hbw.size) (Nat.le_trans hB hbw.size))
  have HK1 := Lib.hid (fun W' (hb : Below w.heap.size w W') => containsInt_any A' c' B0 y.l x.n W' hy2 (ry.below (hb.mono hB)))
  have HK2 := Lib.hid (fun W' (hb : Below w.heap.size w W') => containsInt_any A c B0 x.l y.n W' hx2 (rx.below (hb.mono hB)))
  have HP := Lib.hid (fun W' => Tryz.strings_HasPrefix x.s y.s W')
  have HQ := Lib.hid (fun W' (hb : Below w.heap.size w W') => by
    obtain ⟨m, hm'⟩ := hm.below hb
    exact Tryz.strings_Contains x.s y.s m W' (by omega) hm')
  obtain ⟨q, hq⟩ : ∃ q, cmpV x y = q := ⟨_, rfl⟩
  rw [hq] at HC HV
  have B1 : Blk W w.heap.size 24 #[.int .i64 x.k, .int .i64 x.n, .string x.s, .slice A x.l.length c] := hW ▸ (Blk.new w _ _).alloc _
  have B2 : Blk W (w.heap.size + 1) 24 #[.int .i64 y.k, .int .i64 y.n, .string y.s, .slice A' y.l.length c'] := by
    rw [hW]
    have := Blk.new (w.alloc (.cells #[.int .i64 x.k, .int .i64 x.n, .string x.s, .slice A x.l.length c] 24 (0, 0))) 24 #[.int .i64 y.k, .int .i64 y.n, .string y.s, .slice A' y.l.length c']
    rwa [World.size_alloc] at this
  obtain ⟨a0, -, a1, -, a2, -, a3, -⟩ := Blk.z4 B1
  obtain ⟨d0, -, d1, -, d2, -, d3, -⟩ := Blk.z4 B2
  clear rx ry hx2 hy2 hm hq
  rcases (show op = 4 ∨ op = 5 ∨ op = 6 ∨ op = 7 ∨ op = 8 ∨ op = 9 ∨ op = 10 ∨ op = 11 ∨ op = 32 ∨ op = 33 by omega) with rfl | rfl | rfl | rfl | rfl | rfl | rfl | rfl | rfl | rfl
  all_goals
    go_enter Tryz.func81, Tryz.ntmps81
    go_upto_region 1 with (fail)
    rw [← hW]
    clear hW
    go_wp2_with (first | (go_at_call 118; refine HC.out.mono ?_; rintro e w2 ⟨rfl, hb2⟩; have hbw2 := hbw.trans (hb2.mono hbw.size); obtain ⟨a0, -, a1, -, a2, -, a3, -⟩ := Blk.z4 (B1.below hb2 B1.lt); obtain ⟨d0, -, d1, -, d2, -, d3, -⟩ := Blk.z4 (B2.below hb2 B2.lt)) | (go_at_call 119; (with_reducible refine (HK1.out _ hbw2).mono ?_); rintro e w3 ⟨rfl, rfl⟩) | (go_at_call 119; (with_reducible refine (HK2.out _ hbw2).mono ?_); rintro e w3 ⟨rfl, rfl⟩) | (go_at_call 120; refine (HP.out _).mono ?_; rintro e w3 ⟨rfl, rfl⟩) | (go_at_call 121; refine (HQ.out _ hbw2).mono ?_; rintro e w3 ⟨rfl, rfl⟩))
    go_ret
    exact ⟨ret_bool (by rw [HV.out]; first | (simp; done) | (by_cases hq0 : q = 0 <;> simp [hq0])), hbw2⟩
end Go.Proofs.YtpanbeoelbhhgaaGreatDoor
