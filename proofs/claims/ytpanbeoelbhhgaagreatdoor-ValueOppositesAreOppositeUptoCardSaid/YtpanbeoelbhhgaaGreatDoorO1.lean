/- What the law of opposites needs beside the texts of row 15. -/
import Derived.Test.YtpanbeoelbhhgaaGreatDoorY20
import Derived.Test.YtpanbeoelbhhgaaGreatDoorY15
import Derived.Test.YtpanbeoelbhhgaaGreatDoorY9
import Derived.Test.YtpanbeoelbhhgaaGreatDoorY1
import Derived.RegionTactic
namespace Go.Proofs.YtpanbeoelbhhgaaGreatDoor
open Go.RowKit
theorem strEq_true {a b : ByteArray} (h : a = b) : (a.toList == b.toList) = true := by subst h; simp
theorem strEq_false {a b : ByteArray} (h : a ≠ b) : (a.toList == b.toList) = false := by
  rw [ByteArray.toList_eq, ByteArray.toList_eq, beq_eq_false_iff_ne]
  intro e
  exact h (ByteArray.ext (Array.toList_inj.1 e))
section
variable {w w' : World} {B B' size n : Nat} {A : Option Addr} {xs : List Value}
end

section
variable {w w' : World} {g : Nat} {t : TypeId} {cs : Array Value}
end

def sameV (x y : Val) : Bool := decide (x.k = y.k) && decide (x.n = y.n) && decide (x.s = y.s) && decide (x.l = y.l)
theorem take_ne {xs ys : List Int} {k : Nat} (h1 : k < xs.length) (h2 : k < ys.length) (h : xs[k] ≠ ys[k]) : decide (xs = ys) = false := by
  rw [decide_eq_false_iff_not]
  rintro rfl
  exact h rfl
theorem take_eq {xs ys : List Int} {k : Nat} (h1 : k < xs.length) (h2 : k < ys.length) (h : xs[k] = ys[k]) (ht : xs.take k = ys.take k) : xs.take (k + 1) = ys.take (k + 1) := by
  rw [List.take_succ_eq_append_getElem h1, List.take_succ_eq_append_getElem h2, h, ht]
theorem take_all {xs ys : List Int} {k : Nat} (h1 : xs.length ≤ k) (h2 : ys.length = xs.length) (ht : xs.take k = ys.take k) : decide (xs = ys) = true := by
  rw [List.take_of_length_le h1, List.take_of_length_le (by omega)] at ht
  simpa using ht

set_option maxHeartbeats 400000 in
theorem equalInt_any (A B : Option Addr) (n c m d B1 B2 : Nat) (xs ys : List Int) (w : World) (hn : n ≤ maxLen) (hm : m ≤ maxLen)
    (hx0 : Reads w B1 1 A n (numV .i64 xs)) (hy0 : Reads w B2 1 B m (numV .i64 ys)) (hB1 : B1 ≤ w.heap.size) (hB2 : B2 ≤ w.heap.size) :
    Calls Tryz.prog 21 #[.slice A n c, .slice B m d] w fun e w' => e = .returned (.bool (decide (xs = ys))) ∧ Below w.heap.size w w' := by
  have hx := hx0.more hB1
  have hy := hy0.more hB2
  clear hx0 hy0 hB1 hB2
  have hxl : n = xs.length := by have := hx.1; rw [numV_len] at this; omega
  have hyl : m = ys.length := by have := hy.1; rw [numV_len] at this; omega
  subst hxl hyl
  unfold maxLen at hn hm
  by_cases hl : xs.length = ys.length
  · have hl0 : ((xs.length : Int) != (ys.length : Int)) = false := by simp [hl]
    have hl1 : xs.length ≤ ys.length := by omega
    have hl2 : ys.length ≤ xs.length := by omega
    clear hl
    go_enter Tryz.func21, Tryz.ntmps21
    go_wp2
    go_loopw [13, 5] (fun i _ wr => ∃ k : Nat, k ≤ xs.length ∧ i = .int .i64 k ∧ Below w.heap.size w wr ∧ xs.take k = ys.take k) (fun i _ _ => xs.length - (intOf i).toNat)
    case atStart => exact ⟨0, Nat.zero_le _, rfl, Below.refl _ _, rfl⟩
    case round =>
      obtain ⟨k, hk1, rfl, hb, hc⟩ := hrel
      have HC := Lib.hid hc
      clear hc hl0
      by_cases h1 : k < xs.length
      · have h2 : k < ys.length := by omega
        obtain ⟨ax, u, rfl, _, hu, hcx⟩ := (hx.below hb).at_ h1
        obtain ⟨ay, v, rfl, _, hv, hcy⟩ := (hy.below hb).at_ h2
        obtain ⟨_, rfl⟩ := numV_get _ _ _ _ hu
        obtain ⟨_, rfl⟩ := numV_get _ _ _ _ hv
        clear hu hv hx hy
        by_cases hz : xs[k] = ys[k]
        · have HS := Lib.hid (take_eq h1 h2 hz HC.out)
          have hz1 : (xs[k] != ys[k]) = false := by simp [hz]
          have HZ := Lib.hid hz1
          clear hz hz1
          go_wp2
          have hz1 := HZ.out
          go_quiet (fail)
          go_wp2
          go_roundw
          case rel => exact ⟨k + 1, by omega, by go_num, hb.drewN _, HS.out⟩
          case measure => simp [intOf]; omega
        · have HS := Lib.hid (take_ne h1 h2 hz)
          have hz1 : (xs[k] != ys[k]) = true := by simp [hz]
          have HZ := Lib.hid hz1
          clear hz hz1
          go_wp2
          have hz1 := HZ.out
          go_quiet (fail)
          go_wp2
          go_ret
          exact ⟨ret_bool (by rw [HS.out]), hb.drewN _⟩
      · have HS := Lib.hid (take_all (by omega) (by omega) HC.out)
        go_wp2
        go_ret
        exact ⟨ret_bool (by rw [HS.out]), hb⟩
  · have hl0 : ((xs.length : Int) != (ys.length : Int)) = true := by simp; omega
    have HS := Lib.hid (show decide (xs = ys) = false by rw [decide_eq_false_iff_not]; rintro rfl; exact hl rfl)
    clear hl
    go_enter Tryz.func21, Tryz.ntmps21
    go_wp2
    go_ret
    exact ⟨ret_bool (by rw [HS.out]), Below.refl _ _⟩
set_option maxHeartbeats 400000 in
theorem same_any (x y : Val) (A B : Option Addr) (c d B1 B2 : Nat) (w : World) (hn : x.l.length ≤ maxLen) (hm : y.l.length ≤ maxLen)
    (hx : Reads w B1 1 A x.l.length (numV .i64 x.l)) (hy : Reads w B2 1 B y.l.length (numV .i64 y.l)) (hB1 : B1 ≤ w.heap.size) (hB2 : B2 ≤ w.heap.size) :
    Calls Tryz.prog 9 #[.agg #[.int .i64 x.k, .int .i64 x.n, .string x.s, .slice A x.l.length c], .agg #[.int .i64 y.k, .int .i64 y.n, .string y.s, .slice B y.l.length d]] w
      fun e w' => e = .returned (.bool (sameV x y)) ∧ Below w.heap.size w w' := by
  by_cases h1 : x.k = y.k
  · have b1 : (x.k == y.k) = true := by simp [h1]
    have H1 := Lib.hid h1
    clear h1
    by_cases h2 : x.n = y.n
    · have b2 : (x.n == y.n) = true := by simp [h2]
      have H2 := Lib.hid h2
      clear h2
      by_cases h3 : x.s = y.s
      · have b3 := strEq_true h3
        have HR := Lib.hid (show sameV x y = decide (x.l = y.l) by simp [sameV, H1.out, H2.out, h3])
        clear h3
        go_enter Tryz.func9, Tryz.ntmps9
        go_wp2_with fail
        refine (equalInt_any _ _ _ _ _ _ B1 B2 _ _ _ hn hm ((hx.alloc (by omega) _).alloc (by simp; omega) _) ((hy.alloc (by omega) _).alloc (by simp; omega) _) (by simp; omega) (by simp; omega)).mono ?_
        rintro e w1 ⟨rfl, hb⟩
        go_wp2
        go_ret
        exact ⟨ret_bool (by rw [HR.out]), (((Below.refl _ _).alloc (Nat.le_refl _) _).alloc (by simp) _).trans (hb.mono (by simp; omega))⟩
      · have b3 := strEq_false h3
        have HR := Lib.hid (show sameV x y = false by simp [sameV, h3])
        clear h3
        go_enter Tryz.func9, Tryz.ntmps9
        go_wp2_with fail
        go_ret
        exact ⟨ret_bool (by rw [HR.out]), (((Below.refl _ _).alloc (Nat.le_refl _) _).alloc (by simp) _)⟩
    · have b2 : (x.n == y.n) = false := by simp [h2]
      have HR := Lib.hid (show sameV x y = false by simp [sameV, h2])
      clear h2
      go_enter Tryz.func9, Tryz.ntmps9
      go_wp2_with fail
      go_ret
      exact ⟨ret_bool (by rw [HR.out]), (((Below.refl _ _).alloc (Nat.le_refl _) _).alloc (by simp) _)⟩
  · have b1 : (x.k == y.k) = false := by simp [h1]
    have HR := Lib.hid (show sameV x y = false by simp [sameV, h1])
    clear h1
    go_enter Tryz.func9, Tryz.ntmps9
    go_wp2_with fail
    go_ret
    exact ⟨ret_bool (by rw [HR.out]), (((Below.refl _ _).alloc (Nat.le_refl _) _).alloc (by simp) _)⟩
theorem empty_of {s : ByteArray} (h : s.toList = []) : s = ⟨#[]⟩ := by
  rw [ByteArray.toList_eq] at h
  exact ByteArray.ext (Array.toList_eq_nil_iff.1 h)
theorem unused_parts {v : Val} (h : unusedB v = false) : (usesB v.k = false → v.n = 0) ∧ (v.k ≠ 3 → v.s = ⟨#[]⟩) ∧ (v.k ≠ 5 → v.l = []) := by
  unfold unusedB at h
  rw [Bool.or_eq_false_iff, Bool.or_eq_false_iff] at h
  obtain ⟨h1, h2, h3⟩ := h
  refine ⟨fun hu => ?_, fun hk => ?_, fun hk => ?_⟩
  · simpa [hu] using h1
  · exact empty_of (by simpa [hk] using h2)
  · simpa [hk] using h3
theorem zeroVal_zero : zeroVal zeroV = true := by
  unfold zeroVal zeroV
  have e : (⟨#[]⟩ : ByteArray).toList = [] := by rw [ByteArray.toList_eq]
  simp [e]
theorem partF_op {op : Int} {l : List Ex} (ho : op = 1 ∧ l.length = 1 ∨ (op = 2 ∨ op = 3) ∧ l.length = 2) : partF (opE op l) = 0 := by
  have e : (⟨#[]⟩ : ByteArray).toList = [] := by rw [ByteArray.toList_eq]
  show partB 4 op ⟨#[]⟩ zeroV l.length (headK l) = 0
  unfold partB
  have hx : extraB 4 op ⟨#[]⟩ zeroV l.length = false := by
    unfold extraB
    rw [if_neg (by rw [zeroVal_zero, e]; simp), if_neg (by decide)]
    rcases ho with ⟨rfl, h⟩ | ⟨rfl | rfl, h⟩ <;> rw [h] <;> decide
  rw [if_neg (by decide), if_neg (by rintro ⟨-, h⟩; rcases ho with ⟨rfl, -⟩ | ⟨rfl | rfl, -⟩ <;> exact absurd h (by decide)), if_neg (fun q => absurd q.1 (by decide)), if_neg (by rw [hx]; decide), if_neg (by decide), if_pos rfl, if_neg (by omega)]
theorem fault_op {op : Int} {l : List Ex} (ho : op = 1 ∧ l.length = 1 ∨ (op = 2 ∨ op = 3) ∧ l.length = 2) : (opE op l).fault = faultL l := by
  rw [fault_eq, partF_op ho, if_neg (by decide)]; rfl
theorem kindsL_1 (S : SceneD) (a : Ex) (at_ : List ByteArray) : kindsL S.cells S.loops [a] at_ [] = if (a.kind S.cells S.loops at_).2 ≠ 0 then ((a.kind S.cells S.loops at_).2, []) else (0, [(a.kind S.cells S.loops at_).1]) := by
  rw [kindsL, kindsL]; rfl
theorem kindsL_2 (S : SceneD) (a b : Ex) (at_ : List ByteArray) : kindsL S.cells S.loops [a, b] at_ [] = if (a.kind S.cells S.loops at_).2 ≠ 0 then ((a.kind S.cells S.loops at_).2, []) else if (b.kind S.cells S.loops at_).2 ≠ 0 then ((b.kind S.cells S.loops at_).2, [(a.kind S.cells S.loops at_).1]) else (0, [(a.kind S.cells S.loops at_).1, (b.kind S.cells S.loops at_).1]) := by
  rw [kindsL, kindsL, kindsL]; rfl
theorem opT_1 (x : Int) : opT 1 [x] = if x = 7 then (7, 0) else (0, 8) := by
  show fitT (allB [x] 7) 7 = _
  unfold allB fitT
  by_cases h7 : x = 7 <;> simp [h7]
theorem opT_2 (op : Int) (ho : op = 2 ∨ op = 3) (x y : Int) : opT op [x, y] = if x = 7 ∧ y = 7 then (7, 0) else (0, 8) := by
  unfold opT
  rw [if_pos (by omega)]
  unfold allB fitT
  by_cases h7 : x = 7 <;> by_cases h8 : y = 7 <;> simp [h7, h8]
theorem kind_1 (S : SceneD) (a : Ex) (at_ : List ByteArray) : (opE 1 [a]).kind S.cells S.loops at_ =
    if (a.kind S.cells S.loops at_).2 ≠ 0 then (0, (a.kind S.cells S.loops at_).2) else if (a.kind S.cells S.loops at_).1 = 7 then (7, 0) else (0, 8) := by
  rw [kind_eq]
  show (if (kindsL S.cells S.loops [a] at_ []).1 ≠ 0 then (0, (kindsL S.cells S.loops [a] at_ []).1) else opT 1 (kindsL S.cells S.loops [a] at_ []).2) = _
  rw [kindsL_1]
  by_cases h : (a.kind S.cells S.loops at_).2 = 0
  · simp only [h, ne_eq, not_true_eq_false, if_false, opT_1]
  · simp only [h, ne_eq, not_false_eq_true, if_true]
theorem kind_2 (S : SceneD) (op : Int) (ho : op = 2 ∨ op = 3) (a b : Ex) (at_ : List ByteArray) : (opE op [a, b]).kind S.cells S.loops at_ =
    if (a.kind S.cells S.loops at_).2 ≠ 0 then (0, (a.kind S.cells S.loops at_).2) else if (b.kind S.cells S.loops at_).2 ≠ 0 then (0, (b.kind S.cells S.loops at_).2) else
    if (a.kind S.cells S.loops at_).1 = 7 ∧ (b.kind S.cells S.loops at_).1 = 7 then (7, 0) else (0, 8) := by
  rw [kind_eq]
  show (if (kindsL S.cells S.loops [a, b] at_ []).1 ≠ 0 then (0, (kindsL S.cells S.loops [a, b] at_ []).1) else opT op (kindsL S.cells S.loops [a, b] at_ []).2) = _
  rw [kindsL_2]
  by_cases h : (a.kind S.cells S.loops at_).2 = 0
  · by_cases h2 : (b.kind S.cells S.loops at_).2 = 0
    · simp only [h, h2, ne_eq, not_true_eq_false, if_false, opT_2 op ho]
    · simp only [h, h2, ne_eq, not_true_eq_false, not_false_eq_true, if_false, if_true]
  · simp only [h, ne_eq, not_false_eq_true, if_true]
theorem val_1 (S : SceneD) (a : Ex) (at_ : List ByteArray) (row : List Int) : (opE 1 [a]).val S at_ row = truthV (!isT (a.val S at_ row)) := by
  rw [val_eq]
  show applyV 1 (valsL S [a] at_ row) = _
  rw [valsL_map]
  unfold applyV
  rw [if_pos rfl]; rfl
theorem val_2 (S : SceneD) (a b : Ex) (at_ : List ByteArray) (row : List Int) : (opE 2 [a, b]).val S at_ row = truthV (isT (a.val S at_ row) && isT (b.val S at_ row)) := by
  rw [val_eq]
  show applyV 2 (valsL S [a, b] at_ row) = _
  rw [valsL_map]
  unfold applyV
  rw [if_neg (by decide), if_pos rfl]
  simp
theorem val_3 (S : SceneD) (a b : Ex) (at_ : List ByteArray) (row : List Int) : (opE 3 [a, b]).val S at_ row = truthV (isT (a.val S at_ row) || isT (b.val S at_ row)) := by
  rw [val_eq]
  show applyV 3 (valsL S [a, b] at_ row) = _
  rw [valsL_map]
  unfold applyV
  rw [if_neg (by decide), if_neg (by decide), if_pos rfl]
  simp
theorem isT_truth (b : Bool) : isT (truthV b) = b := by cases b <;> rfl
theorem told_truth (k : Int) (b : Bool) : toldV k (truthV b) = truthV b := by
  unfold toldV
  rw [if_neg (fun h => absurd h.1 (by show ¬ (7 : Int) = 0; decide))]
abbrev eR (a b : Ex) : Ex := opE 3 [opE 1 [a], opE 1 [b]]
theorem faultL_1 (a : Ex) : faultL [a] = a.fault := by rw [faultL]; split <;> simp_all [faultL]
theorem faultL_2 (a b : Ex) : faultL [a, b] = if a.fault ≠ 0 then a.fault else b.fault := by rw [faultL, faultL_1]
theorem fault_L (a b : Ex) : (eL a b).fault = if a.fault ≠ 0 then a.fault else b.fault := by
  rw [fault_op (.inl ⟨rfl, rfl⟩), faultL_1, fault_op (.inr ⟨.inl rfl, rfl⟩), faultL_2]
theorem fault_R (a b : Ex) : (eR a b).fault = if a.fault ≠ 0 then a.fault else b.fault := by
  rw [fault_op (.inr ⟨.inr rfl, rfl⟩), faultL_2, fault_op (.inl ⟨rfl, rfl⟩), fault_op (.inl ⟨rfl, rfl⟩), faultL_1, faultL_1]
theorem checkE_cases (e : Ex) : checkE e = 2 ∨ checkE e = e.fault := by unfold checkE; split <;> simp
theorem kind_L0 (S : SceneD) (a b : Ex) (at_ : List ByteArray) : ((eL a b).kind S.cells S.loops at_).2 = 0 ↔ ((eR a b).kind S.cells S.loops at_).2 = 0 := by
  rw [kind_1, kind_2 _ _ (.inl rfl), kind_2 _ _ (.inr rfl), kind_1, kind_1]
  by_cases h1 : (a.kind S.cells S.loops at_).2 = 0 <;> by_cases h2 : (b.kind S.cells S.loops at_).2 = 0 <;> by_cases h3 : (a.kind S.cells S.loops at_).1 = 7 <;> by_cases h4 : (b.kind S.cells S.loops at_).1 = 7 <;> simp [h1, h2, h3, h4]
/-- faults of both -/
theorem law_faults (S : SceneD) (a b : Ex) (at_ : List ByteArray) (row : List Int) :
    (evFault S (eL a b) at_ row = 0 ∧ evFault S (eR a b) at_ row = 0) ∨ (evFault S (eL a b) at_ row ≠ 0 ∧ evFault S (eR a b) at_ row ≠ 0) ∨ evFault S (eL a b) at_ row = 2 ∨ evFault S (eR a b) at_ row = 2 := by
  unfold evFault
  by_cases h1 : sceneF S.cells S.loops S.bounds S.rows = 0
  · rw [if_neg (Decidable.not_not.2 h1), if_neg (Decidable.not_not.2 h1)]
    rcases checkE_cases (eL a b) with c1 | c1
    · rw [c1]; exact .inr (.inr (.inl rfl))
    rcases checkE_cases (eR a b) with c2 | c2
    · rw [c2]; exact .inr (.inr (.inr rfl))
    rw [fault_L] at c1
    rw [fault_R] at c2
    rw [c1, c2]
    generalize (if a.fault ≠ 0 then a.fault else b.fault) = q
    by_cases hq : q = 0
    · rw [if_neg (Decidable.not_not.2 hq), if_neg (Decidable.not_not.2 hq)]
      by_cases h3 : nestedF S.loops at_ = false
      · simp only [h3, if_true]; exact .inr (.inl ⟨by decide, by decide⟩)
      · rw [if_neg h3, if_neg h3]
        have hk := kind_L0 S a b at_
        by_cases h4 : ((eL a b).kind S.cells S.loops at_).2 = 0
        · rw [if_neg (Decidable.not_not.2 h4), if_neg (Decidable.not_not.2 (hk.1 h4))]
          by_cases h5 : rowF row at_.length = 0
          · exact .inl ⟨h5, h5⟩
          · exact .inr (.inl ⟨h5, h5⟩)
        · have h4' : ((eR a b).kind S.cells S.loops at_).2 ≠ 0 := fun z => h4 (hk.2 z)
          rw [if_pos h4, if_pos h4']; exact .inr (.inl ⟨h4, h4'⟩)
    · rw [if_pos hq, if_pos hq]; exact .inr (.inl ⟨hq, hq⟩)
  · rw [if_pos h1, if_pos h1]; exact .inr (.inl ⟨h1, h1⟩)
/-- OPPOSITES -/
theorem law_opposites {S : SceneD} {a b : Ex} {at_ : List ByteArray} {row : List Int} (h1 : evFault S (eL a b) at_ row = 0) (h2 : evFault S (eR a b) at_ row = 0) : evalV S (eL a b) at_ row = evalV S (eR a b) at_ row := by
  unfold evalV
  rw [if_neg (Decidable.not_not.2 h1), if_neg (Decidable.not_not.2 h2), val_1, val_2, val_3, val_1, val_1, told_truth, told_truth]
  simp only [isT_truth]
  rw [Bool.not_and]
/-- a Bool that is told is its truth -/
theorem told_bool {v : Val} (h : okV 7 v) : toldV 7 v = truthV (isT v) := by
  rcases h with h | ⟨hk, hc⟩
  · subst h; rfl
  · have P := chkP_of hc
    have hs := (unused_parts P.u).2.1 (by rw [hk]; decide)
    have hl := (unused_parts P.u).2.2 (by rw [hk]; decide)
    have hr := P.r
    rw [hk] at hr
    have e1 : loOf 7 = 0 := by decide
    have e2 : hiOf 7 = 1 := by decide
    rw [e1, e2] at hr
    unfold toldV
    rw [if_neg (fun q => absurd q.1 (by rw [hk]; decide))]
    obtain ⟨k, n, s, l⟩ := v
    simp only at hk hs hl hr
    subst hk hs hl
    have hn : n = 0 ∨ n = 1 := by omega
    rcases hn with rfl | rfl <;> rfl
theorem law_twice {S : SceneD} {a : Ex} {at_ : List ByteArray} {row : List Int} (h1 : evFault S (opE 1 [opE 1 [a]]) at_ row = 0) (h2 : evFault S a at_ row = 0) : evalV S (opE 1 [opE 1 [a]]) at_ row = evalV S a at_ row := by
  obtain ⟨s1, c1, n1, k1, r1⟩ := evFault_parts h1
  obtain ⟨s2, c2, n2, k2, r2⟩ := evFault_parts h2
  have hk7 : (a.kind S.cells S.loops at_).1 = 7 := by
    rw [kind_1, kind_1] at k1
    by_cases h7 : (a.kind S.cells S.loops at_).1 = 7
    · exact h7
    · simp [k2, h7] at k1
  unfold evalV
  rw [if_neg (Decidable.not_not.2 h1), if_neg (Decidable.not_not.2 h2), val_1, val_1, told_truth, isT_truth, hk7, told_bool (val_ok (scOk_of s2).sceneOk a (checkE_fault c2) at_ row 7 (Prod.ext hk7 k2)), Bool.not_not]
open Go

/-- all operations are plain: no guard, edges lead back, each slot has one operation, and lies within the frame -/
def plainOps (ops : Array Oper) (n s : Nat) : Bool :=
  (List.range ops.size).all fun i => match ops[i]? with
    | none => false
    | some o => o.guard.isNone && o.after.all (fun e => !Region.binds .any e || decide (e.on < i)) &&
      (match o.dst with
       | none => i == s
       | some t => i != s && decide (t < n) && (List.range ops.size).all fun j => match ops[j]? with
         | none => false
         | some p => j == i || p.dst != some t)

/-- what stands in the slots and in the world once some operations of a region are done; st: operation s is done -/
structure RInv (ops : Array Oper) (a0 : Act) (C : World → Prop) (R : Bool → Nat → Value → World → Prop) (s : Nat) (listed : Array Bool) (a : Act) (w : World) : Prop where
  hc : C w
  size : listed.size = ops.size
  defers : a.defers = a0.defers
  tsize : a.tmps.size = a0.tmps.size
  old : ∀ t : Nat, (∀ (i : Nat) (o : Oper), ops[i]? = some o → listed.getD i false = true → o.dst ≠ some t) → a.tmps[t]? = a0.tmps[t]?
  down : ∀ (i : Nat) (o : Oper), ops[i]? = some o → listed.getD i false = true → ∀ e ∈ o.after, Region.binds .any e = true → listed.getD e.on false = true
  res : ∀ (i : Nat) (o : Oper) (t : Nat), ops[i]? = some o → listed.getD i false = true → o.dst = some t → ∃ x, a.tmps[t]? = some x ∧ R (listed.getD s false) t x w

theorem getD_set {l : Array Bool} {i j : Nat} (hi : i < l.size) : (l.setIfInBounds i true).getD j false = (decide (j = i) || l.getD j false) := by
  simp only [Array.getD_eq_getD_getElem?, Array.getElem?_setIfInBounds]
  by_cases h : i = j
  · subst h; simp [hi]
  · simp [h, Ne.symm h]

theorem plainOps_spec {ops : Array Oper} {n s : Nat} (h : plainOps ops n s = true) {i : Nat} {o : Oper} (ho : ops[i]? = some o) :
    o.guard = none ∧ (∀ e ∈ o.after, Region.binds .any e = true → e.on < i) ∧ (o.dst = none → i = s) ∧ ∀ t, o.dst = some t → i ≠ s ∧ t < n ∧ ∀ (j : Nat) (p : Oper), ops[j]? = some p → p.dst = some t → j = i := by
  have hi : i < ops.size := (Array.getElem?_eq_some_iff.1 ho).1
  have h1 := List.all_eq_true.1 h i (List.mem_range.2 hi)
  rw [ho] at h1
  simp only [Bool.and_eq_true] at h1
  obtain ⟨⟨h2, h3⟩, h4⟩ := h1
  refine ⟨by simpa using h2, fun e he hb => ?_, fun hd => ?_, fun t ht => ?_⟩
  · have := Array.all_eq_true'.1 h3 e he
    simpa [hb] using this
  · rw [hd] at h4; simpa using h4
  · rw [ht] at h4
    simp only [Bool.and_eq_true] at h4
    obtain ⟨⟨h5, h6⟩, h7⟩ := h4
    refine ⟨by simpa using h5, by simpa using h6, fun j p hp hpt => ?_⟩
    have hj : j < ops.size := (Array.getElem?_eq_some_iff.1 hp).1
    have h8 := List.all_eq_true.1 h7 j (List.mem_range.2 hj)
    rw [hp] at h8
    simp only [Bool.or_eq_true, beq_iff_eq, bne_iff_ne] at h8
    rcases h8 with h8 | h8
    · exact h8
    · exact absurd hpt h8

section
variable {P : Program} {ops : Array Oper} {Q : Exit → Act → World → Prop} {a0 : Act} {C : World → Prop} {R : Bool → Nat → Value → World → Prop} {s : Nat}

/-- the slot of an operation that is done -/
theorem RInv.at_ {listed : Array Bool} {a : Act} {w : World} (h : RInv ops a0 C R s listed a w) (i : Nat) {o : Oper} {t : Nat} (ho : ops[i]? = some o) (hl : listed.getD i false = true) (ht : o.dst = some t) :
    ∃ x, a.tmps[t]?.getD undef = x ∧ R (listed.getD s false) t x w := by
  obtain ⟨x, h1, h2⟩ := h.res i o t ho hl ht
  exact ⟨x, by simp [h1], h2⟩

/-- an operation with a result, not s -/
theorem RInv.put {listed : Array Bool} {a : Act} {w w' : World} (h : RInv ops a0 C R s listed a w) (hp : plainOps ops a0.tmps.size s = true) {i : Nat} {o : Oper} {t : Nat} {x : Value}
    (ho : ops[i]? = some o) (hd : ∀ e ∈ o.after, Region.binds .any e = true → listed.getD e.on false = true) (ht : o.dst = some t) (hc : C w') (hm : ∀ t x, R (listed.getD s false) t x w → R (listed.getD s false) t x w') (hx : R (listed.getD s false) t x w') :
    RInv ops a0 C R s (listed.setIfInBounds i true) (a.put o.dst x) w' := by
  obtain ⟨-, -, -, h4⟩ := plainOps_spec hp ho
  obtain ⟨hs, htn, hu⟩ := h4 t ht
  have hi : i < listed.size := h.size ▸ (Array.getElem?_eq_some_iff.1 ho).1
  have hse : (listed.setIfInBounds i true).getD s false = listed.getD s false := by rw [getD_set hi]; simp [Ne.symm hs]
  rw [ht]
  refine ⟨hc, by simp [h.size], h.defers, by simp [Act.put, h.tsize], fun u hu' => ?_, fun j p hp' hl e he hb => ?_, fun j p u hp' hl hpu => ?_⟩
  · have hne : t ≠ u := fun e => hu' i o ho (by rw [getD_set hi]; simp) (e ▸ ht)
    simp only [Act.put, Array.getElem?_setIfInBounds, hne, if_false]
    exact h.old u fun j p hp' hl => hu' j p hp' (by rw [getD_set hi, hl]; simp)
  · rw [getD_set hi] at hl ⊢
    by_cases ej : j = i
    · subst ej; rw [ho] at hp'; cases hp'; simp [hd e he hb]
    · simp [h.down j p hp' (by simpa [ej] using hl) e he hb]
  · rw [hse]
    by_cases e : j = i
    · subst e
      rw [ho] at hp'
      cases hp'
      rw [ht] at hpu
      cases hpu
      exact ⟨x, by simp [Act.put, h.tsize, htn], hx⟩
    · rw [getD_set hi] at hl
      obtain ⟨y, h1, h2⟩ := h.res j p u hp' (by simpa [e] using hl) hpu
      have hne : t ≠ u := fun e' => e (hu j p hp' (e' ▸ hpu))
      exact ⟨y, by simp [Act.put, hne, h1], hm _ _ h2⟩

/-- operation s: a store -/
theorem RInv.store {listed : Array Bool} {a : Act} {w w' : World} (h : RInv ops a0 C R s listed a w) {o : Oper} {v : Value} (ho : ops[s]? = some o) (hd : ∀ e ∈ o.after, Region.binds .any e = true → listed.getD e.on false = true) (ht : o.dst = none) (hc : C w')
    (hm : ∀ (i : Nat) (o : Oper) (t : Nat), ops[i]? = some o → listed.getD i false = true → o.dst = some t → ∀ x, a.tmps[t]? = some x → R (listed.getD s false) t x w → R true t x w') :
    RInv ops a0 C R s (listed.setIfInBounds s true) (a.put o.dst v) w' := by
  have hi : s < listed.size := h.size ▸ (Array.getElem?_eq_some_iff.1 ho).1
  rw [ht]
  refine ⟨hc, by simp [h.size], h.defers, h.tsize, fun u hu' => ?_, fun j p hp' hl e he hb => ?_, fun j p u hp' hl hpu => ?_⟩
  · exact h.old u fun j p hp' hl => hu' j p hp' (by rw [getD_set hi, hl]; simp)
  · rw [getD_set hi] at hl ⊢
    by_cases ej : j = s
    · subst ej; rw [ho] at hp'; cases hp'; simp [hd e he hb]
    · simp [h.down j p hp' (by simpa [ej] using hl) e he hb]
  · rw [getD_set hi] at hl
    have hse : (listed.setIfInBounds s true).getD s false = true := by rw [getD_set hi]; simp
    rw [hse]
    by_cases e : j = s
    · subst e
      rw [ho] at hp'
      cases hp'
      rw [ht] at hpu
      cases hpu
    · obtain ⟨y, h1, h2⟩ := h.res j p u hp' (by simpa [e] using hl) hpu
      exact ⟨y, h1, hm j p u hp' (by simpa [e] using hl) hpu y h1 h2⟩

theorem RInv.keep_ {listed : Array Bool} {a : Act} {w : World} (h : RInv ops a0 C R s listed a w) (t : Nat) (hn : ops.all (fun o => o.dst != some t) = true) : a.tmps[t]?.getD undef = a0.tmps[t]?.getD undef := by
  have := h.old t fun i o ho _ he => by
    have h1 := Array.all_eq_true'.1 hn o (Array.mem_of_getElem? ho)
    simp [he] at h1
  simp [this]
theorem dep_listed {md : Region.Mode} {o : Oper} {listed : Array Bool} (hd : ∀ e ∈ o.after, Region.binds md e = true → listed.getD e.on false = true) (j : Nat) (h : o.after.any (fun e => Region.binds md e && e.on == j) = true) : listed.getD j false = true := by
  obtain ⟨e, he, hb⟩ := Array.any_eq_true'.1 h
  simp only [Bool.and_eq_true, beq_iff_eq] at hb
  rw [← hb.2]
  exact hd e he hb.1
/-- each one of a list needs the one ahead of it -/
def chainB (ops : Array Oper) : List Nat → Bool
  | i :: j :: r => ((ops[j]?).any fun o => o.after.any fun e => Region.binds .any e && e.on == i) && chainB ops (j :: r)
  | _ => true
theorem RInv.chain {listed : Array Bool} {a : Act} {w : World} (h : RInv ops a0 C R s listed a w) : ∀ (l : List Nat) (i : Nat), chainB ops (i :: l) = true → listed.getD ((i :: l).getLast (by simp)) false = true → listed.getD i false = true
  | [], i, _, h1 => h1
  | j :: r, i, hc, h1 => by
    simp only [chainB, Bool.and_eq_true] at hc
    have hj := h.chain r j hc.2 (by rwa [List.getLast_cons (by simp)] at h1)
    cases ho : ops[j]? with
    | none => simp [ho] at hc
    | some o =>
      have hx := hc.1
      rw [ho] at hx
      exact dep_listed (h.down j o ho hj) i hx
/-- what s needs is not done: nor is s -/
theorem RInv.notyet {listed : Array Bool} {a : Act} {w : World} (h : RInv ops a0 C R s listed a w) (i : Nat) (l : List Nat) (hl : listed.getD i false = false) (hc : chainB ops (i :: l) = true) (he : (i :: l).getLast (by simp) = s) : listed.getD s false = false := by
  cases hq : listed.getD s false
  · rfl
  · have := h.chain l i hc (by rw [he]; exact hq)
    rw [hl] at this
    cases this
theorem slots_eq (T : Array Value) (n : Nat) (h : T.size = n) : T = ((List.range n).map (fun i => T[i]?.getD undef)).toArray := by
  apply Array.ext
  · simp [h]
  · intro i h1 h2
    simp [h1]

theorem count_set {l : Array Bool} {i : Nat} (hi : i < l.size) (h : l.getD i false = false) : (l.setIfInBounds i true).toList.countP (! ·) + 1 = l.toList.countP (! ·) := by
  obtain ⟨l⟩ := l
  simp only [List.size_toArray] at hi
  simp only [List.setIfInBounds_toArray]
  rw [List.countP_set hi]
  have h1 : l[i] = false := by simpa [Array.getD_eq_getD_getElem?, hi] using h
  have h2 : 0 < l.countP (! ·) := List.countP_pos_iff.2 ⟨l[i], List.getElem_mem hi, by simp [h1]⟩
  simp only [h1]
  simp
  omega

theorem ready_mem {md : Region.Mode} {listed : Array Bool} {i : Nat} (h : i ∈ Region.ready md ops listed) (hz : listed.size = ops.size) :
    ∃ o, ops[i]? = some o ∧ listed.getD i false = false ∧ ∀ e ∈ o.after, Region.binds md e = true → listed.getD e.on false = true := by
  unfold Region.ready at h
  rw [List.mem_filter] at h
  obtain ⟨h1, h2⟩ := h
  have hi := List.mem_range.1 h1
  simp only [Bool.and_eq_true, Bool.not_eq_true'] at h2
  obtain ⟨h3, h4⟩ := h2
  refine ⟨ops[i], by simp [hi], by simpa [Array.getD_eq_getD_getElem?, hz, hi] using h3, fun e he hb => ?_⟩
  simp only [Array.getElem?_eq_getElem hi, Option.map_some, Option.getD_some] at h4
  have := Array.all_eq_true'.1 h4 e he
  simpa [hb] using this

theorem ready_some {listed : Array Bool} {n : Nat} (hp : plainOps ops n s = true) (hz : listed.size = ops.size) : ∀ (k i : Nat), i ≤ k → i < ops.size → listed.getD i false = false → Region.ready .any ops listed ≠ []
  | k, i, hik, hi, hl => by
    by_cases hd : ∃ e ∈ (ops[i]).after, Region.binds .any e = true ∧ listed.getD e.on false = false
    · obtain ⟨e, he, heb, hel⟩ := hd
      have hlt := (plainOps_spec hp (by simp [hi] : ops[i]? = some ops[i])).2.1 e he heb
      cases k with
      | zero => omega
      | succ k => exact ready_some hp hz k e.on (by omega) (by omega) hel
    · intro h0
      have hm : i ∈ Region.ready .any ops listed := by
        unfold Region.ready
        rw [List.mem_filter]
        refine ⟨List.mem_range.2 hi, ?_⟩
        simp only [Bool.and_eq_true, Bool.not_eq_true']
        refine ⟨by simpa [Array.getD_eq_getD_getElem?, hz, hi] using hl, ?_⟩
        simp only [Array.getElem?_eq_getElem hi, Option.map_some, Option.getD_some]
        refine Array.all_eq_true'.2 fun e he => ?_
        cases hb : Region.binds .any e
        · simp
        · have : listed.getD e.on false = true := by
            cases hq : listed.getD e.on false
            · exact absurd ⟨e, he, hb, hq⟩ hd
            · rfl
          simp [this]
      rw [h0] at hm
      cases hm

/-- the invariant carries through all orders -/
theorem wpAny_inv (hp : plainOps ops a0.tmps.size s = true)
    (hstep : ∀ (i : Nat) (o : Oper) (listed : Array Bool) (a : Act) (w : World), RInv ops a0 C R s listed a w → ops[i]? = some o → listed.getD i false = false →
      (∀ e ∈ o.after, Region.binds .any e = true → listed.getD e.on false = true) → ∀ K : Act → World → Prop, (∀ a' w', RInv ops a0 C R s (listed.setIfInBounds i true) a' w' → K a' w') → o.wp P a w K Q)
    (hend : ∀ (listed : Array Bool) (a : Act) (w : World), RInv ops a0 C R s listed a w → (∀ i < ops.size, listed.getD i false = true) → Q .normal a w) :
    ∀ (fuel : Nat) (listed : Array Bool) (a : Act) (w : World), RInv ops a0 C R s listed a w → listed.toList.countP (! ·) = fuel → wpAny P .any ops Q fuel listed a w := by
  have hall : ∀ (listed : Array Bool) (a : Act) (w : World), RInv ops a0 C R s listed a w → Region.ready .any ops listed = [] → Q .normal a w := by
    intro listed a w h h0
    refine hend listed a w h fun i hi => ?_
    cases hq : listed.getD i false
    · exact absurd h0 (ready_some hp h.size i i (Nat.le_refl _) hi hq)
    · rfl
  intro fuel
  induction fuel with
  | zero =>
    intro listed a w h hc
    have h0 : Region.ready .any ops listed = [] := by
      rw [List.eq_nil_iff_forall_not_mem]
      intro i hi
      obtain ⟨o, ho, hl, -⟩ := ready_mem hi h.size
      have hlt : i < listed.size := h.size ▸ (Array.getElem?_eq_some_iff.1 ho).1
      have := count_set hlt hl
      omega
    exact ⟨h0, hall listed a w h h0⟩
  | succ fuel ih =>
    intro listed a w h hc
    refine ⟨hall listed a w h, fun i hi => ?_⟩
    obtain ⟨o, ho, hl, hd⟩ := ready_mem hi h.size
    have hlt : i < listed.size := h.size ▸ (Array.getElem?_eq_some_iff.1 ho).1
    have hw : Region.wanted o (yielded ops a.tmps) = true := by simp [Region.wanted, (plainOps_spec hp ho).1]
    simp only [wpOp, ho, hw, if_true]
    refine Or.inl (hstep i o listed a w h ho hl hd _ fun a' w' h' => ih _ a' w' h' ?_)
    have := count_set hlt hl
    omega

/-- a region that draws its order, by an invariant -/
theorem wp_region_inv {id : Nat} {w : World} (hm : P.follows .mixedOrders = true) (C : World → Prop) (R : Bool → Nat → Value → World → Prop) (s : Nat) (hp : plainOps ops a0.tmps.size s = true) (hc : C w.drew)
    (hstep : ∀ (i : Nat) (o : Oper) (listed : Array Bool) (a : Act) (w : World), RInv ops a0 C R s listed a w → ops[i]? = some o → listed.getD i false = false →
      (∀ e ∈ o.after, Region.binds .any e = true → listed.getD e.on false = true) → ∀ K : Act → World → Prop, (∀ a' w', RInv ops a0 C R s (listed.setIfInBounds i true) a' w' → K a' w') → o.wp P a w K Q)
    (hend : ∀ (listed : Array Bool) (a : Act) (w : World), RInv ops a0 C R s listed a w → (∀ i < ops.size, listed.getD i false = true) → Q .normal a w) :
    (Code.region id ops true).wp P Q a0 w := by
  refine wp_region_any hm (wpAny_inv hp hstep hend ops.size (Array.replicate ops.size false) a0 _ ⟨hc, by simp, rfl, rfl, fun _ _ => rfl, fun i o ho hl => ?_, fun i o t ho hl => ?_⟩ ?_)
  · have hi : i < ops.size := (Array.getElem?_eq_some_iff.1 ho).1
    simp [Array.getD_eq_getD_getElem?, hi] at hl
  · have hi : i < ops.size := (Array.getElem?_eq_some_iff.1 ho).1
    simp [Array.getD_eq_getD_getElem?, hi] at hl
  · simp [List.countP_replicate]
end
attribute [local go_sem ↓] Go.wp_at_zero Go.wp_at_succ
set_option maxHeartbeats 4000000
set_option maxRecDepth 100000

/-- an operation over one argument in a block -/
theorem ExAt.op1 {w : World} {B g : Nat} {op : Int} {x : Ex} {xs : List Value} (hx : ExAt w B x xs) (hb : Blk w g 27 xs.toArray) (hg : g < B) :
    ExAt w B (opE op [x]) [.int .i64 4, .int .i64 op, .string ⟨#[]⟩, .int .i64 0, .int .i64 0, .string ⟨#[]⟩, .slice none 0 0, .slice (some ⟨g, 0, none⟩) 1 1] := by
  have hl : xs.length = 8 := by cases hx; rfl
  refine ExAt.mk (e := opE op [x]) (cs := xs) (Nat.zero_le _) (Nat.zero_le _) (Nat.zero_le _) (by unfold maxLen; exact Nat.le_of_ble_eq_true rfl) Reads.none_ ⟨by rw [hl]; rfl, fun _ => ⟨_, rfl, hg, fun j u hu => ?_⟩⟩ (fun i h => ?_)
  · have h := hb.cell j
    rw [show (⟨g, 0, none⟩ : Addr).add j = ⟨g, j, none⟩ by unfold Addr.add; split <;> simp_all, h]
    simpa using hu
  · have h0 : i = 0 := by have : i < 1 := h; omega
    subst h0
    rw [Nat.zero_mul, List.drop_zero, List.take_of_length_le (by omega)]
    exact hx
/-- an operation over two arguments in a block -/
theorem ExAt.op2 {w : World} {B g : Nat} {op : Int} {x y : Ex} {xs ys : List Value} (hx : ExAt w B x xs) (hy : ExAt w B y ys) (hb : Blk w g 27 (xs ++ ys).toArray) (hg : g < B) :
    ExAt w B (opE op [x, y]) [.int .i64 4, .int .i64 op, .string ⟨#[]⟩, .int .i64 0, .int .i64 0, .string ⟨#[]⟩, .slice none 0 0, .slice (some ⟨g, 0, none⟩) 2 2] := by
  have hl : xs.length = 8 := by cases hx; rfl
  have hm : ys.length = 8 := by cases hy; rfl
  refine ExAt.mk (e := opE op [x, y]) (cs := xs ++ ys) (Nat.zero_le _) (Nat.zero_le _) (Nat.zero_le _) (by unfold maxLen; exact Nat.le_of_ble_eq_true rfl) Reads.none_ ⟨by rw [List.length_append, hl, hm]; rfl, fun _ => ⟨_, rfl, hg, fun j u hu => ?_⟩⟩ (fun i h => ?_)
  · have h := hb.cell j
    rw [show (⟨g, 0, none⟩ : Addr).add j = ⟨g, j, none⟩ by unfold Addr.add; split <;> simp_all, h]
    simpa using hu
  · have h0 : i = 0 ∨ i = 1 := by have : i < 2 := h; omega
    rcases h0 with rfl | rfl
    · rw [Nat.zero_mul, List.drop_zero, List.take_append_of_le_length (by omega), List.take_of_length_le (by omega)]
      exact hx
    · rw [Nat.one_mul, List.drop_append_of_le_length (by omega), List.drop_of_length_le (by omega), List.nil_append, List.take_of_length_le (by omega)]
      exact hy
theorem built_any (o : Int) (A : Option Addr) (n c : Nat) (w : World) :
    Calls Tryz.prog 7 #[.int .i64 o, .slice A n c] w fun e w' => e = .returned (.agg #[.int .i64 4, .int .i64 o, .string ⟨#[]⟩, .int .i64 0, .int .i64 0, .string ⟨#[]⟩, .slice none 0 0, .slice A n c]) ∧ Below w.heap.size w w' := by
  go_enter Tryz.func7, Tryz.ntmps7
  go_wp2_with fail
  obtain ⟨W, hW⟩ : ∃ W, W = w.alloc (.cells #[.int .i64 4, .int .i64 o, .string ⟨#[]⟩, .int .i64 0, .int .i64 0, .string ⟨#[]⟩, .slice none 0 0, .slice A n c] 27 (0, 0)) := ⟨_, rfl⟩
  have B : Blk W w.heap.size 27 #[.int .i64 4, .int .i64 o, .string ⟨#[]⟩, .int .i64 0, .int .i64 0, .string ⟨#[]⟩, .slice none 0 0, .slice A n c] := hW ▸ Blk.new w _ _
  have hbw : Below w.heap.size w W := hW ▸ below_a w _
  rw [← hW]
  clear hW
  have q0 : W.cell? ⟨w.heap.size, 0, none⟩ = some (.int .i64 4) := B.cell 0
  have q1 : W.cell? ⟨w.heap.size, 1, none⟩ = some (.int .i64 o) := B.cell 1
  have q2 : W.cell? ⟨w.heap.size, 2, none⟩ = some (.string ⟨#[]⟩) := B.cell 2
  have q3 : W.cell? ⟨w.heap.size, 3, none⟩ = some (.int .i64 0) := B.cell 3
  have q4 : W.cell? ⟨w.heap.size, 4, none⟩ = some (.int .i64 0) := B.cell 4
  have q5 : W.cell? ⟨w.heap.size, 5, none⟩ = some (.string ⟨#[]⟩) := B.cell 5
  have q6 : W.cell? ⟨w.heap.size, 6, none⟩ = some (.slice none 0 0) := B.cell 6
  have q7 : W.cell? ⟨w.heap.size, 7, none⟩ = some (.slice A n c) := B.cell 7
  exact bodyPost_ret (v := .agg #[.int .i64 4, .int .i64 o, .string ⟨#[]⟩, .int .i64 0, .int .i64 0, .string ⟨#[]⟩, .slice none 0 0, .slice A n c]) (by simp [results, Tryz.results7, go_sem, q0, q1, q2, q3, q4, q5, q6, q7]) rfl ⟨rfl, hbw⟩
end Go.Proofs.YtpanbeoelbhhgaaGreatDoor
