/- The walks of 'order' and 'sign': -1, 0, 1 as two ints compare. No condition. · The walks of 'compareInts' and 'Lists': lists of ints by the first elements that differ. No condition. · The walks of 'Compare' of two values (both packages) and of 'same'. No condition. · The walks of the small callees of Check: 'outside', 'within', 'limits', 'inRange', 'unused'. No condition. · The walks of 'Check' in both packages: which fault a value has. No condition. · Expressions as trees: their parts, levels, the measure with an early end; what is a fault of a part. The plain mathematics: no program in sight. · What a part without fault is. The plain mathematics. · Expressions as they lie in memory; the count of an expression's parts. · The walks of IsName in both packages. · The walk of the reference's IsName. -/
import Derived.Test.YtpanbeoelbhhgaaGreatDoorY1
import Derived.Test.YtpanbeoelbhhgaaGreatDoorYSh
import Derived.Deep.DeepCutAuto
import Derived.Deep.Light
import Derived.Outline
namespace Go.Proofs.YtpanbeoelbhhgaaGreatDoor
open Go.RowKit
def ordI (a b : Int) : Int := if a < b then -1 else if b < a then 1 else 0
theorem order_any (a b : Int) (w : World) :
    Calls Tryz.prog 155 #[.int .i64 a, .int .i64 b] w fun e w' => e = .returned (.int .i64 (ordI a b)) ∧ w = w' := by
  go_enter Tryz.func155, Tryz.ntmps155
  go_wp2
  all_goals (go_ret; exact ⟨ret_int (by simp [ordI, *] <;> omega), rfl⟩)
theorem order_any' (a b : Int) (w : World) :
    Calls Tryz.prog 155 #[.int .i64 a, .int .i64 b] w fun e w' => e = .returned (.int .i64 (ordI a b)) ∧ w' = w := (order_any a b w).mono fun _ _ ⟨h1, h2⟩ => ⟨h1, h2.symm⟩
end Go.Proofs.YtpanbeoelbhhgaaGreatDoor
namespace Go.Proofs.YtpanbeoelbhhgaaGreatDoor
open Go.RowKit
def cmpL : List Int → List Int → Int
  | [], [] => 0
  | [], _ :: _ => -1
  | _ :: _, [] => 1
  | a :: l, b :: r => if ordI a b = 0 then cmpL l r else ordI a b
def numV (k : IntKind) (l : List Int) : List Value := l.map (Value.int k)
theorem numV_get (κ : IntKind) (l : List Int) (k : Nat) (u : Value) (h : (numV κ l)[k]? = some u) : ∃ h : k < l.length, u = .int κ l[k] := by
  unfold numV at h
  rw [List.getElem?_map] at h
  rcases hk : l[k]? with _ | x
  · rw [hk] at h; simp at h
  · rw [hk] at h
    simp at h
    obtain ⟨hl, hx⟩ := List.getElem?_eq_some_iff.1 hk
    exact ⟨hl, by rw [hx, h]⟩
theorem numV_len (κ : IntKind) (l : List Int) : (numV κ l).length = l.length := by simp [numV]
theorem cmpL_drop {xs ys : List Int} {k : Nat} (h1 : k < xs.length) (h2 : k < ys.length) (h : ordI xs[k] ys[k] = 0) : cmpL (xs.drop k) (ys.drop k) = cmpL (xs.drop (k + 1)) (ys.drop (k + 1)) := by
  rw [List.drop_eq_getElem_cons h1, List.drop_eq_getElem_cons h2]
  simp [cmpL, h]
theorem cmpL_stop {xs ys : List Int} {k : Nat} (h1 : k < xs.length) (h2 : k < ys.length) (h : ordI xs[k] ys[k] ≠ 0) : cmpL (xs.drop k) (ys.drop k) = ordI xs[k] ys[k] := by
  rw [List.drop_eq_getElem_cons h1, List.drop_eq_getElem_cons h2]
  simp [cmpL, h]
theorem cmpL_nil_left (l : List Int) (h : 0 < l.length) : cmpL [] l = -1 := by cases l <;> simp_all [cmpL]
theorem cmpL_nil_right (l : List Int) (h : 0 < l.length) : cmpL l [] = 1 := by cases l <;> simp_all [cmpL]
theorem cmpL_end {xs ys : List Int} {k : Nat} (hk : k ≤ xs.length) (hk' : k ≤ ys.length) (h : ¬ (k < xs.length ∧ k < ys.length)) : cmpL (xs.drop k) (ys.drop k) = ordI xs.length ys.length := by
  by_cases h1 : k < xs.length
  · rw [show ys.drop k = [] from List.drop_eq_nil_of_le (by omega), cmpL_nil_right _ (by simp; omega)]
    simp only [ordI]
    rw [if_neg (by omega), if_pos (by omega)]
  · rw [show xs.drop k = [] from List.drop_eq_nil_of_le (by omega)]
    by_cases h2 : k < ys.length
    · rw [cmpL_nil_left _ (by simp; omega)]
      simp only [ordI]
      rw [if_pos (by omega)]
    · rw [show ys.drop k = [] from List.drop_eq_nil_of_le (by omega)]
      simp only [ordI, cmpL]
      rw [if_neg (by omega), if_neg (by omega)]
set_option maxHeartbeats 400000 in
theorem compareInts_any (A B : Option Addr) (n c m d B1 B2 : Nat) (xs ys : List Int) (w : World) (hn : n ≤ maxLen) (hm : m ≤ maxLen)
    (hx0 : Reads w B1 1 A n (numV .i64 xs)) (hy0 : Reads w B2 1 B m (numV .i64 ys)) (hB1 : B1 ≤ w.heap.size) (hB2 : B2 ≤ w.heap.size) :
    Calls Tryz.prog 111 #[.slice A n c, .slice B m d] w fun e w' => e = .returned (.int .i64 (cmpL xs ys)) ∧ Below w.heap.size w w' := by
  have hx := hx0.more hB1
  have hy := hy0.more hB2
  clear hx0 hy0 hB1 hB2
  have hxl : n = xs.length := by have := hx.1; rw [numV_len] at this; omega
  have hyl : m = ys.length := by have := hy.1; rw [numV_len] at this; omega
  subst hxl hyl
  unfold maxLen at hn hm
  go_enter Tryz.func111, Tryz.ntmps111
  go_wp2
  go_loopw [5] (fun i wr => ∃ k : Nat, k ≤ xs.length ∧ k ≤ ys.length ∧ i = .int .i64 k ∧ Below w.heap.size w wr ∧ cmpL xs ys = cmpL (xs.drop k) (ys.drop k)) (fun i _ => xs.length - (intOf i).toNat)
  case atStart => exact ⟨0, Nat.zero_le _, Nat.zero_le _, rfl, Below.refl _ _, rfl⟩
  case round =>
    obtain ⟨k, hk1, hk2, rfl, hb, hc⟩ := hrel
    have HC := Lib.hid hc
    clear hc
    by_cases hlt : k < xs.length ∧ k < ys.length
    · obtain ⟨h1, h2⟩ := hlt
      obtain ⟨ax, u, rfl, _, hu, hcx⟩ := (hx.below hb).at_ h1
      obtain ⟨ay, v, rfl, _, hv, hcy⟩ := (hy.below hb).at_ h2
      obtain ⟨_, rfl⟩ := numV_get _ _ _ _ hu
      obtain ⟨_, rfl⟩ := numV_get _ _ _ _ hv
      clear hu hv hx hy
      by_cases hz : ordI xs[k] ys[k] = 0
      · have hs := cmpL_drop h1 h2 hz
        have hz1 : (ordI xs[k] ys[k] != 0) = false := by simp [hz]
        have HS := Lib.hid hs
        have HZ := Lib.hid hz1
        clear hs hz hz1
        go_wp2
        go_quiet ((go_at_call 155; exact Calls.quiet_of_same (order_any' _ _ _)))
        have hz1 := HZ.out
        go_wp2
        go_roundw
        case rel => exact ⟨k + 1, by omega, by omega, by go_num, hb.drewN _, by rw [HC.out, HS.out]⟩
        case measure => simp [intOf]; omega
      · have hs := cmpL_stop h1 h2 hz
        have hz1 : (ordI xs[k] ys[k] != 0) = true := by simp [hz]
        have HS := Lib.hid hs
        have HZ := Lib.hid hz1
        clear hs hz hz1
        go_wp2
        go_quiet ((go_at_call 155; exact Calls.quiet_of_same (order_any' _ _ _)))
        have hz1 := HZ.out
        go_wp2
        go_ret
        exact ⟨ret_int (by rw [HC.out, HS.out]), hb.drewN _⟩
    · have he := cmpL_end hk1 hk2 hlt
      have HE := Lib.hid he
      clear he
      have hlt' : k < xs.length → ¬ k < ys.length := fun h h' => hlt ⟨h, h'⟩
      clear hlt
      by_cases h1 : k < xs.length
      · have h2 := hlt' h1
        clear hlt'
        go_wp2_with (go_at_call 155; refine (order_any _ _ _).mono ?_; rintro e w' ⟨rfl, rfl⟩)
        go_ret
        exact ⟨ret_int (by rw [HC.out, HE.out]), hb⟩
      · clear hlt'
        go_wp2_with (go_at_call 155; refine (order_any _ _ _).mono ?_; rintro e w' ⟨rfl, rfl⟩)
        go_ret
        exact ⟨ret_int (by rw [HC.out, HE.out]), hb⟩
end Go.Proofs.YtpanbeoelbhhgaaGreatDoor
namespace Go.Proofs.YtpanbeoelbhhgaaGreatDoor
open Go.RowKit
structure Val where
  k : Int
  n : Int
  s : ByteArray
  l : List Int
def cmpV (x y : Val) : Int :=
  if ordI x.k y.k ≠ 0 then ordI x.k y.k else if ordI x.n y.n ≠ 0 then ordI x.n y.n else
  if Lib.compareBytes x.s.data.toList y.s.data.toList ≠ 0 then Lib.compareBytes x.s.data.toList y.s.data.toList else cmpL x.l y.l
set_option maxHeartbeats 400000 in
theorem compare_any (x y : Val) (A B : Option Addr) (c d B1 B2 : Nat) (w : World) (hn : x.l.length ≤ maxLen) (hm : y.l.length ≤ maxLen)
    (hx : Reads w B1 1 A x.l.length (numV .i64 x.l)) (hy : Reads w B2 1 B y.l.length (numV .i64 y.l)) (hB1 : B1 ≤ w.heap.size) (hB2 : B2 ≤ w.heap.size) :
    Calls Tryz.prog 118 #[.agg #[.int .i64 x.k, .int .i64 x.n, .string x.s, .slice A x.l.length c], .agg #[.int .i64 y.k, .int .i64 y.n, .string y.s, .slice B y.l.length d]] w
      fun e w' => e = .returned (.int .i64 (cmpV x y)) ∧ Below w.heap.size w w' := by
  by_cases h1 : ordI x.k y.k = 0
  · have b1 : (ordI x.k y.k != 0) = false := by simp [h1]
    have H1 := Lib.hid h1
    clear h1
    by_cases h2 : ordI x.n y.n = 0
    · have b2 : (ordI x.n y.n != 0) = false := by simp [h2]
      have H2 := Lib.hid h2
      clear h2
      by_cases h3 : Lib.compareBytes x.s.data.toList y.s.data.toList = 0
      · have b3 : (Lib.compareBytes x.s.data.toList y.s.data.toList != 0) = false := by simp [h3]
        have HR := Lib.hid (show cmpV x y = cmpL x.l y.l by simp [cmpV, H1.out, H2.out, h3])
        clear h3
        go_enter Tryz.func118, Tryz.ntmps118
        go_wp2_with (first
          | (go_at_call 155; refine (order_any _ _ _).mono ?_; rintro e w' ⟨rfl, rfl⟩)
          | (go_at_call 110; refine (Tryz.strings_Compare _ _ _).mono ?_; rintro e w' ⟨rfl, rfl⟩))
        refine (compareInts_any _ _ _ _ _ _ B1 B2 _ _ _ hn hm ((hx.alloc (by omega) _).alloc (by simp; omega) _) ((hy.alloc (by omega) _).alloc (by simp; omega) _) (by simp; omega) (by simp; omega)).mono ?_
        rintro e w1 ⟨rfl, hb⟩
        go_wp2
        go_ret
        exact ⟨ret_int (by rw [HR.out]), (((Below.refl _ _).alloc (Nat.le_refl _) _).alloc (by simp) _).trans (hb.mono (by simp; omega))⟩
      · have b3 : (Lib.compareBytes x.s.data.toList y.s.data.toList != 0) = true := by simp [h3]
        have HR := Lib.hid (show cmpV x y = Lib.compareBytes x.s.data.toList y.s.data.toList by simp [cmpV, H1.out, H2.out, h3])
        clear h3
        go_enter Tryz.func118, Tryz.ntmps118
        go_wp2_with (first
          | (go_at_call 155; refine (order_any _ _ _).mono ?_; rintro e w' ⟨rfl, rfl⟩)
          | (go_at_call 110; refine (Tryz.strings_Compare _ _ _).mono ?_; rintro e w' ⟨rfl, rfl⟩))
        go_ret
        exact ⟨ret_int (by rw [HR.out]), (((Below.refl _ _).alloc (Nat.le_refl _) _).alloc (by simp) _)⟩
    · have b2 : (ordI x.n y.n != 0) = true := by simp [h2]
      have HR := Lib.hid (show cmpV x y = ordI x.n y.n by simp [cmpV, H1.out, h2])
      clear h2
      go_enter Tryz.func118, Tryz.ntmps118
      go_wp2_with (go_at_call 155; refine (order_any _ _ _).mono ?_; rintro e w' ⟨rfl, rfl⟩)
      go_ret
      exact ⟨ret_int (by rw [HR.out]), (((Below.refl _ _).alloc (Nat.le_refl _) _).alloc (by simp) _)⟩
  · have b1 : (ordI x.k y.k != 0) = true := by simp [h1]
    have HR := Lib.hid (show cmpV x y = ordI x.k y.k by simp [cmpV, h1])
    clear h1
    go_enter Tryz.func118, Tryz.ntmps118
    go_wp2_with (go_at_call 155; refine (order_any _ _ _).mono ?_; rintro e w' ⟨rfl, rfl⟩)
    go_ret
    exact ⟨ret_int (by rw [HR.out]), (((Below.refl _ _).alloc (Nat.le_refl _) _).alloc (by simp) _)⟩
end Go.Proofs.YtpanbeoelbhhgaaGreatDoor
namespace Go.Proofs.YtpanbeoelbhhgaaGreatDoor
open Go.RowKit
def outB (n lo hi : Int) : Bool := decide (n < lo) || decide (hi < n)
theorem outB_true {n lo hi : Int} (h : n < lo ∨ hi < n) : outB n lo hi = true := by simp [outB]; omega
theorem outB_false {n lo hi : Int} (h : lo ≤ n) (h' : n ≤ hi) : outB n lo hi = false := by simp [outB]; omega
theorem outside_any (a b c : Int) (w : World) :
    Calls Tryz.prog 23 #[.int .i64 a, .int .i64 b, .int .i64 c] w fun e w' => e = .returned (.bool (outB a b c)) ∧ w = w' := by
  by_cases h1 : a < b
  · have HR := Lib.hid (outB_true (.inl h1) : outB a b c = true)
    go_enter Tryz.func23, Tryz.ntmps23
    go_wp2
    go_ret
    exact ⟨ret_bool (by rw [HR.out]), rfl⟩
  · by_cases h2 : c < a
    · have HR := Lib.hid (outB_true (.inr h2) : outB a b c = true)
      go_enter Tryz.func23, Tryz.ntmps23
      go_wp2
      go_ret
      exact ⟨ret_bool (by rw [HR.out]), rfl⟩
    · have HR := Lib.hid (outB_false (by omega) (by omega) : outB a b c = false)
      go_enter Tryz.func23, Tryz.ntmps23
      go_wp2
      go_ret
      exact ⟨ret_bool (by rw [HR.out]), rfl⟩
def loOf (k : Int) : Int := if k = 1 then 1 else if k = 2 then -999999999999999 else if k = 4 then 1 else if k = 6 then -25567 else 0
def hiOf (k : Int) : Int := if k = 1 then 3 else if k = 2 then 999999999999999 else if k = 4 then 999 else if k = 6 then 84005 else if k = 7 then 1 else 0
theorem limits_any (k : Int) (w : World) :
    Calls Tryz.prog 25 #[.int .i64 k] w fun e w' => e = .returned (.tuple #[.int .i64 (loOf k), .int .i64 (hiOf k)]) ∧ w = w' := by
  go_enter Tryz.func25, Tryz.ntmps25
  go_wp2
  all_goals (go_ret2; exact ⟨ret_val (by simp_all [loOf, hiOf]), rfl⟩)
def usesB (k : Int) : Bool := !decide (k = 0) && (!decide (k = 3) && !decide (k = 5))
def unusedB (x : Val) : Bool := (!usesB x.k && !decide (x.n = 0)) || ((!decide (x.k = 3) && !decide (x.s.toList = [])) || (!decide (x.k = 5) && !decide (x.l = [])))
set_option maxHeartbeats 1000000 in
theorem unused_any (x : Val) (A : Option Addr) (c : Nat) (w : World) :
    Calls Tryz.prog 24 #[.agg #[.int .i64 x.k, .int .i64 x.n, .string x.s, .slice A x.l.length c]] w
      fun e w' => e = .returned (.bool (unusedB x)) ∧ Below w.heap.size w w' := by
  go_enter Tryz.func24, Tryz.ntmps24
  go_wp2
  all_goals (go_ret; exact ⟨ret_bool (by simp_all [unusedB, usesB, List.length_pos_iff]), (Below.refl _ _).alloc (Nat.le_refl _) _⟩)
end Go.Proofs.YtpanbeoelbhhgaaGreatDoor
namespace Go.Proofs.YtpanbeoelbhhgaaGreatDoor
open Go.RowKit
theorem any_hit {α : Type} {l : List α} {p : α → Bool} {k : Nat} (h : k < l.length) (hp : p l[k] = true) : l.any p = true := List.any_eq_true.2 ⟨_, List.getElem_mem h, hp⟩
theorem any_step {α : Type} {l : List α} {p : α → Bool} {k : Nat} (h : k < l.length) (hp : p l[k] = false) (ht : (l.take k).any p = false) : (l.take (k + 1)).any p = false := by
  rw [List.take_succ_eq_append_getElem h, List.any_append, ht]
  simp [hp]
theorem any_done {α : Type} {l : List α} {p : α → Bool} {k : Nat} (h : l.length ≤ k) (ht : (l.take k).any p = false) : l.any p = false := by
  rwa [List.take_of_length_le h] at ht
def badByte (c : UInt8) : Bool := decide ((c.toNat : Int) < 32) || decide (126 < (c.toNat : Int))
def badStr (s : ByteArray) : Bool := s.data.toList.any badByte
def badCode (c : Int) : Bool := outB c 1 999
def descAt (l : List Int) (i : Nat) : Bool := decide (l.getD (i + 1) 0 ≤ l.getD i 0)
def unsorted (l : List Int) : Bool := (List.range (l.length - 1)).any (descAt l)
def checkV (x : Val) : Int :=
  if outB x.k 0 7 = true then 4 else if unusedB x = true then 3 else if outB x.n (loOf x.k) (hiOf x.k) = true then 1 else
  if 200 < x.s.size ∨ 40 < x.l.length then 2 else if badStr x.s = true then 1 else if x.l.any badCode = true then 1 else if unsorted x.l = true then 7 else 0
theorem str_at {s : ByteArray} {k : Nat} (h : k < s.size) : ∃ h' : k < s.data.toList.length, s.data.toList[k] = s[k] := ⟨by simpa using h, rfl⟩
theorem bad_hit {s : ByteArray} {k : Nat} (h : k < s.size) (hp : (s[k].toNat : Int) < 32 ∨ 126 < (s[k].toNat : Int)) : badStr s = true := by
  obtain ⟨h', e⟩ := str_at h
  refine any_hit h' ?_
  rw [e]
  simpa [badByte] using hp
theorem bad_step {s : ByteArray} {k : Nat} (h : k < s.size) (h1 : ¬ (s[k].toNat : Int) < 32) (h2 : ¬ 126 < (s[k].toNat : Int)) (ht : (s.data.toList.take k).any badByte = false) : (s.data.toList.take (k + 1)).any badByte = false := by
  obtain ⟨h', e⟩ := str_at h
  refine any_step h' ?_ ht
  rw [e]
  simp only [badByte, Bool.or_eq_false_iff, decide_eq_false_iff_not]
  exact ⟨h1, h2⟩
theorem bad_done {s : ByteArray} {k : Nat} (h : s.size ≤ k) (ht : (s.data.toList.take k).any badByte = false) : badStr s = false := any_done (by simpa using h) ht
theorem desc_hit {l : List Int} {k : Nat} (h1 : 1 ≤ k) (h : k < l.length) (hd : l[k] ≤ l[k - 1]) : unsorted l = true := by
  unfold unsorted
  refine List.any_eq_true.2 ⟨k - 1, List.mem_range.2 (by omega), ?_⟩
  unfold descAt
  rw [show k - 1 + 1 = k from by omega]
  simpa [List.getD, h, show k - 1 < l.length from by omega] using hd
theorem desc_step {l : List Int} {k : Nat} (h1 : 1 ≤ k) (h : k < l.length) (hd : ¬ l[k] ≤ l[k - 1]) (ht : (List.range (k - 1)).any (descAt l) = false) : (List.range (k + 1 - 1)).any (descAt l) = false := by
  rw [show k + 1 - 1 = (k - 1) + 1 from by omega, List.range_succ, List.any_append, ht, List.any_cons, List.any_nil]
  unfold descAt
  rw [show k - 1 + 1 = k from by omega]
  simpa [List.getD, h, show k - 1 < l.length from by omega] using hd
theorem desc_done {l : List Int} {k : Nat} (h1 : 1 ≤ k) (h : l.length ≤ k) (hk : k ≤ l.length ∨ k = 1) (ht : (List.range (k - 1)).any (descAt l) = false) : unsorted l = false := by
  unfold unsorted
  rw [show l.length - 1 = k - 1 from by omega]
  exact ht
set_option maxHeartbeats 2000000 in
theorem check_any (x : Val) (A : Option Addr) (c B1 : Nat) (w : World) (_hn : x.l.length ≤ maxLen) (_hs : x.s.size ≤ maxLen) (hx : Reads w B1 1 A x.l.length (numV .i64 x.l)) (hB1 : B1 ≤ w.heap.size) :
    Calls Tryz.prog 11 #[.agg #[.int .i64 x.k, .int .i64 x.n, .string x.s, .slice A x.l.length c]] w
      fun e w' => e = .returned (.int .i64 (checkV x)) ∧ Below w.heap.size w w' := by
  by_cases e1 : outB x.k 0 7 = true
  · have HR := Lib.hid (show checkV x = 4 by unfold checkV; rw [if_pos e1])
    go_enter Tryz.func11, Tryz.ntmps11
    go_wp2_with (first
        | (go_at_call 23; refine (outside_any _ _ _ _).mono ?_; rintro e w' ⟨rfl, rfl⟩)
        | (go_at_call 25; refine (limits_any _ _).mono ?_; rintro e w' ⟨rfl, rfl⟩))
    go_ret
    exact ⟨ret_int (by rw [HR.out]), ((Below.refl _ _).alloc (Nat.le_refl _) _)⟩
  have e1' : outB x.k 0 7 = false := by simpa using e1
  have E1 := Lib.hid e1
  clear e1
  by_cases e2 : unusedB x = true
  · have HR := Lib.hid (show checkV x = 3 by unfold checkV; rw [if_neg E1.out, if_pos e2])
    go_enter Tryz.func11, Tryz.ntmps11
    go_wp2_with (first
        | (go_at_call 23; refine (outside_any _ _ _ _).mono ?_; rintro e w' ⟨rfl, rfl⟩)
        | (go_at_call 25; refine (limits_any _ _).mono ?_; rintro e w' ⟨rfl, rfl⟩))
    refine (unused_any _ _ _ _).mono ?_
    rintro e w1 ⟨rfl, hb⟩
    go_wp2
    go_ret
    exact ⟨ret_int (by rw [HR.out]), ((Below.refl _ _).alloc (Nat.le_refl _) _).trans (hb.mono (by simp))⟩
  have e2' : unusedB x = false := by simpa using e2
  have E2 := Lib.hid e2
  clear e2
  go_enter Tryz.func11, Tryz.ntmps11
  go_wp2_with (first
        | (go_at_call 23; refine (outside_any _ _ _ _).mono ?_; rintro e w' ⟨rfl, rfl⟩)
        | (go_at_call 25; refine (limits_any _ _).mono ?_; rintro e w' ⟨rfl, rfl⟩))
  refine (unused_any _ _ _ _).mono ?_
  rintro e w1 ⟨rfl, hb1⟩
  have c0 : w1.cell? ⟨w.heap.size, 0, none⟩ = some (.int .i64 x.k) := Below.cell_of hb1 (by simp [go_sem])
  have c1 : w1.cell? ⟨w.heap.size, 1, none⟩ = some (.int .i64 x.n) := Below.cell_of hb1 (by simp [go_sem])
  have c2 : w1.cell? ⟨w.heap.size, 2, none⟩ = some (.string x.s) := Below.cell_of hb1 (by simp [go_sem])
  have c3 : w1.cell? ⟨w.heap.size, 3, none⟩ = some (.slice A x.l.length c) := Below.cell_of hb1 (by simp [go_sem])
  have hb : Below w.heap.size w w1 := ((Below.refl _ _).alloc (Nat.le_refl _) _).trans (hb1.mono (by simp))
  clear hb1
  by_cases e3 : outB x.n (loOf x.k) (hiOf x.k) = true
  · have HR := Lib.hid (show checkV x = 1 by unfold checkV; rw [if_neg E1.out, if_neg E2.out, if_pos e3])
    go_wp2_with (first
        | (go_at_call 23; refine (outside_any _ _ _ _).mono ?_; rintro e w' ⟨rfl, rfl⟩)
        | (go_at_call 25; refine (limits_any _ _).mono ?_; rintro e w' ⟨rfl, rfl⟩))
    go_ret
    exact ⟨ret_int (by rw [HR.out]), hb⟩
  have e3' : outB x.n (loOf x.k) (hiOf x.k) = false := by simpa using e3
  have E3 := Lib.hid e3
  clear e3
  by_cases e4 : 200 < x.s.size
  · have HR := Lib.hid (show checkV x = 2 by unfold checkV; rw [if_neg E1.out, if_neg E2.out, if_neg E3.out, if_pos (.inl e4)])
    go_wp2_with (first
        | (go_at_call 23; refine (outside_any _ _ _ _).mono ?_; rintro e w' ⟨rfl, rfl⟩)
        | (go_at_call 25; refine (limits_any _ _).mono ?_; rintro e w' ⟨rfl, rfl⟩))
    go_ret
    exact ⟨ret_int (by rw [HR.out]), hb⟩
  by_cases e5 : 40 < x.l.length
  · have HR := Lib.hid (show checkV x = 2 by unfold checkV; rw [if_neg E1.out, if_neg E2.out, if_neg E3.out, if_pos (.inr e5)])
    go_wp2_with (first
        | (go_at_call 23; refine (outside_any _ _ _ _).mono ?_; rintro e w' ⟨rfl, rfl⟩)
        | (go_at_call 25; refine (limits_any _ _).mono ?_; rintro e w' ⟨rfl, rfl⟩))
    go_ret
    exact ⟨ret_int (by rw [HR.out]), hb⟩
  have H5 := Lib.hid (show checkV x = if badStr x.s = true then 1 else if x.l.any badCode = true then 1 else if unsorted x.l = true then 7 else 0 by unfold checkV; rw [if_neg E1.out, if_neg E2.out, if_neg E3.out, if_neg (by omega)])
  clear E1 E2 E3
  go_wp2_with (first
        | (go_at_call 23; refine (outside_any _ _ _ _).mono ?_; rintro e w' ⟨rfl, rfl⟩)
        | (go_at_call 25; refine (limits_any _ _).mono ?_; rintro e w' ⟨rfl, rfl⟩))
  clear e1' e2' e3'
  go_loop [5] (fun i => ∃ k : Nat, k ≤ x.s.size ∧ i = .int .i64 k ∧ (x.s.data.toList.take k).any badByte = false) (fun i => x.s.size - (intOf i).toNat)
  case atStart => exact ⟨0, Nat.zero_le _, rfl, rfl⟩
  case round =>
    obtain ⟨k, hk, rfl, ht⟩ := hrel
    have HT := Lib.hid ht
    clear ht
    by_cases hlt : k < x.s.size
    · by_cases b1 : (x.s[k].toNat : Int) < 32
      · have HR := Lib.hid (bad_hit hlt (.inl b1))
        go_wp2
        go_ret
        exact ⟨ret_int (by rw [H5.out, if_pos HR.out]), hb⟩
      by_cases b2 : 126 < (x.s[k].toNat : Int)
      · have HR := Lib.hid (bad_hit hlt (.inr b2))
        go_wp2
        go_ret
        exact ⟨ret_int (by rw [H5.out, if_pos HR.out]), hb⟩
      have HN := Lib.hid (bad_step hlt b1 b2 HT.out)
      go_wp2
      go_round
      case rel => exact ⟨k + 1, by omega, by go_num, HN.out⟩
      case measure => simp [intOf]; omega
    have H6 := Lib.hid (show checkV x = if x.l.any badCode = true then 1 else if unsorted x.l = true then 7 else 0 by rw [H5.out, if_neg (by rw [bad_done (by omega) HT.out]; simp)])
    clear H5 HT
    go_wp2
    go_loop [57, 7] (fun i _ => ∃ k : Nat, k ≤ x.l.length ∧ i = .int .i64 k ∧ (x.l.take k).any badCode = false) (fun i _ => x.l.length - (intOf i).toNat)
    case atStart => exact ⟨0, Nat.zero_le _, rfl, rfl⟩
    case round =>
      obtain ⟨k2, hk2, rfl, ht⟩ := hrel
      have HT := Lib.hid ht
      clear ht
      by_cases hl2 : k2 < x.l.length
      · obtain ⟨ax, u, rfl, _, hu, hcx⟩ := ((hx.more hB1).below hb).at_ hl2
        obtain ⟨_, rfl⟩ := numV_get _ _ _ _ hu
        clear hu
        by_cases b1 : outB x.l[k2] 1 999 = true
        · have HR := Lib.hid (any_hit (p := badCode) hl2 b1)
          go_wp2_with (first
        | (go_at_call 23; refine (outside_any _ _ _ _).mono ?_; rintro e w' ⟨rfl, rfl⟩)
        | (go_at_call 25; refine (limits_any _ _).mono ?_; rintro e w' ⟨rfl, rfl⟩))
          go_ret
          exact ⟨ret_int (by rw [H6.out, if_pos HR.out]), hb⟩
        have b1' : outB x.l[k2] 1 999 = false := by simpa using b1
        have HN := Lib.hid (any_step (p := badCode) hl2 b1' HT.out)
        clear b1
        go_wp2_with (first
        | (go_at_call 23; refine (outside_any _ _ _ _).mono ?_; rintro e w' ⟨rfl, rfl⟩)
        | (go_at_call 25; refine (limits_any _ _).mono ?_; rintro e w' ⟨rfl, rfl⟩))
        go_round
        case rel => exact ⟨k2 + 1, by omega, by go_num, HN.out⟩
        case measure => simp [intOf]; omega
      have H7 := Lib.hid (show checkV x = if unsorted x.l = true then 7 else 0 by rw [H6.out, if_neg (by rw [any_done (by omega) HT.out]; simp)])
      clear H6 HT
      go_wp2
      go_loopw [8] (fun i wr => ∃ k : Nat, 1 ≤ k ∧ (k ≤ x.l.length ∨ k = 1) ∧ i = .int .i64 k ∧ Below w1.heap.size w1 wr ∧ (List.range (k - 1)).any (descAt x.l) = false) (fun i _ => x.l.length - (intOf i).toNat)
      case atStart => exact ⟨1, Nat.le_refl _, .inr rfl, rfl, Below.refl _ _, rfl⟩
      case round =>
        obtain ⟨k3, hk3, hk4, rfl, hbr, ht⟩ := hrel
        have HT := Lib.hid ht
        clear ht
        replace c3 := Below.cell_of hbr c3
        clear c0 c1 c2
        replace hb := hb.trans (hbr.mono hb.size)
        by_cases hl3 : k3 < x.l.length
        · obtain ⟨ax, u, rfl, _, hu, hcx⟩ := ((hx.more hB1).below hb).at_ hl3
          obtain ⟨ay, v, ey, _, hv, hcy⟩ := ((hx.more hB1).below hb).at_ (show k3 - 1 < x.l.length by omega)
          obtain rfl : ax = ay := by injection ey
          obtain ⟨_, rfl⟩ := numV_get _ _ _ _ hu
          obtain ⟨_, rfl⟩ := numV_get _ _ _ _ hv
          clear hu hv ey hx
          by_cases b1 : x.l[k3] ≤ x.l[k3 - 1]
          · have HR := Lib.hid (desc_hit hk3 hl3 b1)
            go_wp2
            go_quiet (fail)
            go_wp2
            go_ret
            exact ⟨ret_int (by rw [H7.out, if_pos HR.out]), hb.drewN _⟩
          have HN := Lib.hid (desc_step hk3 hl3 b1 HT.out)
          go_wp2
          go_quiet (fail)
          go_wp2
          go_roundw
          case rel => exact ⟨k3 + 1, by omega, by omega, by go_num, hbr.drewN _, HN.out⟩
          case measure => simp [intOf]; omega
        have H8 := Lib.hid (show checkV x = 0 by rw [H7.out, if_neg (by rw [desc_done hk3 (by omega) hk4 HT.out]; simp)])
        clear H7 HT
        go_wp2
        go_ret
        exact ⟨ret_int (by rw [H8.out]), hb⟩
end Go.Proofs.YtpanbeoelbhhgaaGreatDoor
namespace Go.Proofs.YtpanbeoelbhhgaaGreatDoor
inductive Ex where
  | mk (k op : Int) (nm : ByteArray) (v : Val) (ar : List Ex)
def Ex.k : Ex → Int | .mk k _ _ _ _ => k
def Ex.op : Ex → Int | .mk _ op _ _ _ => op
def Ex.nm : Ex → ByteArray | .mk _ _ nm _ _ => nm
def Ex.v : Ex → Val | .mk _ _ _ v _ => v
def Ex.ar : Ex → List Ex | .mk _ _ _ _ ar => ar
mutual
def Ex.parts : Ex → Nat
  | .mk _ _ _ _ ar => partsL ar + 1
def partsL : List Ex → Nat
  | [] => 0
  | a :: r => a.parts + partsL r
end
mutual
def Ex.depth : Ex → Nat
  | .mk _ _ _ _ ar => depthL ar + 1
def depthL : List Ex → Nat
  | [] => 0
  | a :: r => max a.depth (depthL r)
end
theorem parts_eq (e : Ex) : e.parts = partsL e.ar + 1 := by cases e; rw [Ex.parts]; rfl
theorem depth_eq (e : Ex) : e.depth = depthL e.ar + 1 := by cases e; rw [Ex.depth]; rfl
mutual
theorem Ex.ind_ {P : Ex → Prop} (h : ∀ k op nm v ar, (∀ a ∈ ar, P a) → P (.mk k op nm v ar)) : ∀ e, P e
  | .mk k op nm v ar => h k op nm v ar (Ex.indL_ h ar)
theorem Ex.indL_ {P : Ex → Prop} (h : ∀ k op nm v ar, (∀ a ∈ ar, P a) → P (.mk k op nm v ar)) : ∀ ar : List Ex, ∀ a ∈ ar, P a
  | [] => fun _ ha => by cases ha
  | b :: r => fun a ha => by
    rcases List.mem_cons.1 ha with e | e
    · rw [e]; exact Ex.ind_ h b
    · exact Ex.indL_ h r a e
end
/-- induction on an expression, by its parts -/
theorem Ex.ind {P : Ex → Prop} (e : Ex) (h : ∀ e : Ex, (∀ a ∈ e.ar, P a) → P e) : P e := Ex.ind_ (fun k op nm v ar ih => h (.mk k op nm v ar) ih) e
mutual
def Ex.meas : Ex → Nat → Nat × Nat → Nat × Nat
  | .mk _ _ _ _ ar, lv, s => if 300 < s.1 + 1 ∨ 20 < lv then (s.1 + 1, max s.2 lv) else measL ar (lv + 1) (s.1 + 1, max s.2 lv)
def measL : List Ex → Nat → Nat × Nat → Nat × Nat
  | [], _, s => s
  | a :: r, lv, s => measL r lv (a.meas lv s)
end
theorem meas_eq (e : Ex) (lv : Nat) (s : Nat × Nat) : e.meas lv s = if 300 < s.1 + 1 ∨ 20 < lv then (s.1 + 1, max s.2 lv) else measL e.ar (lv + 1) (s.1 + 1, max s.2 lv) := by cases e; rw [Ex.meas]; rfl
def bad (s : Nat × Nat) : Prop := 300 < s.1 ∨ 20 < s.2
theorem measL_up {ar : List Ex} {lv : Nat} (h : ∀ a ∈ ar, ∀ s : Nat × Nat, s.1 ≤ (a.meas lv s).1 ∧ s.2 ≤ (a.meas lv s).2) : ∀ s : Nat × Nat, s.1 ≤ (measL ar lv s).1 ∧ s.2 ≤ (measL ar lv s).2 := by
  induction ar with
  | nil => intro s; exact ⟨Nat.le_refl _, Nat.le_refl _⟩
  | cons a r ih =>
    intro s
    have h1 := h a (List.mem_cons_self ..) s
    have h2 := ih (fun b hb => h b (List.mem_cons_of_mem _ hb)) (a.meas lv s)
    rw [measL]
    omega
theorem meas_up (e : Ex) : ∀ lv (s : Nat × Nat), s.1 ≤ (e.meas lv s).1 ∧ s.2 ≤ (e.meas lv s).2 ∧ lv ≤ (e.meas lv s).2 := by
  induction e using Ex.ind with
  | h e ih =>
    intro lv s
    rw [meas_eq]
    split
    · exact ⟨by show s.1 ≤ s.1 + 1; omega, by show s.2 ≤ max s.2 lv; omega, by show lv ≤ max s.2 lv; omega⟩
    · have := measL_up (lv := lv + 1) (fun a ha s => ⟨(ih a ha (lv + 1) s).1, (ih a ha (lv + 1) s).2.1⟩) (s.1 + 1, max s.2 lv)
      simp only at this
      omega
theorem bad_up {s t : Nat × Nat} (h : bad s) (h1 : s.1 ≤ t.1) (h2 : s.2 ≤ t.2) : bad t := by unfold bad at *; omega
theorem measL_ok {lv : Nat} : ∀ {ar : List Ex}, (∀ a ∈ ar, ∀ s : Nat × Nat, (¬ bad (s.1 + a.parts, max s.2 (lv + a.depth)) → a.meas (lv + 1) s = (s.1 + a.parts, max s.2 (lv + a.depth))) ∧ (bad (s.1 + a.parts, max s.2 (lv + a.depth)) → bad (a.meas (lv + 1) s))) →
    ∀ s : Nat × Nat, lv ≤ s.2 → (¬ bad (s.1 + partsL ar, max s.2 (lv + depthL ar)) → measL ar (lv + 1) s = (s.1 + partsL ar, max s.2 (lv + depthL ar))) ∧ (bad (s.1 + partsL ar, max s.2 (lv + depthL ar)) → bad (measL ar (lv + 1) s))
  | [], _, s, hs => by
    rw [measL, partsL, depthL]
    have e : (s.1 + 0, max s.2 (lv + 0)) = s := Prod.ext (by simp) (by simp; omega)
    rw [e]
    exact ⟨fun _ => rfl, id⟩
  | a :: r, h, s, hs => by
    rw [measL, partsL, depthL]
    obtain ⟨h1, h2⟩ := h a (List.mem_cons_self ..) s
    have e : (s.1 + (a.parts + partsL r), max s.2 (lv + max a.depth (depthL r))) = ((s.1 + a.parts, max s.2 (lv + a.depth)).1 + partsL r, max (s.1 + a.parts, max s.2 (lv + a.depth)).2 (lv + depthL r)) :=
      Prod.ext (by simp; try omega) (by simp; try omega)
    by_cases hb : bad (s.1 + a.parts, max s.2 (lv + a.depth))
    · have hm := h2 hb
      have hup := measL_up (ar := r) (lv := lv + 1) (fun b _ s => ⟨(meas_up b (lv + 1) s).1, (meas_up b (lv + 1) s).2.1⟩) (a.meas (lv + 1) s)
      refine ⟨fun hn => absurd (bad_up hb (by show _ ≤ s.1 + (a.parts + partsL r); simp; try omega) (by show _ ≤ max s.2 (lv + max a.depth (depthL r)); simp; try omega)) hn, fun _ => bad_up hm hup.1 hup.2⟩
    · have ih := measL_ok (fun b hb => h b (List.mem_cons_of_mem _ hb)) (s.1 + a.parts, max s.2 (lv + a.depth)) (by show lv ≤ max s.2 (lv + a.depth); omega)
      rw [h1 hb, e]
      exact ih
theorem meas_ok (e : Ex) : ∀ lv (s : Nat × Nat), (¬ bad (s.1 + e.parts, max s.2 (lv + e.depth)) → e.meas (lv + 1) s = (s.1 + e.parts, max s.2 (lv + e.depth))) ∧ (bad (s.1 + e.parts, max s.2 (lv + e.depth)) → bad (e.meas (lv + 1) s)) := by
  induction e using Ex.ind with
  | h e ih =>
    intro lv s
    rw [meas_eq, parts_eq, depth_eq]
    have IH := measL_ok (lv := lv + 1) (fun a ha s => ih a ha (lv + 1) s) (s.1 + 1, max s.2 (lv + 1)) (by simp; omega)
    have e2 : (s.1 + (partsL e.ar + 1), max s.2 (lv + (depthL e.ar + 1))) = ((s.1 + 1, max s.2 (lv + 1)).1 + partsL e.ar, max (s.1 + 1, max s.2 (lv + 1)).2 (lv + 1 + depthL e.ar)) := Prod.ext (by simp; omega) (by simp; omega)
    rw [e2]
    split
    · rename_i hc
      refine ⟨fun hn => absurd ?_ hn, fun _ => ?_⟩
      · unfold bad; simp; omega
      · unfold bad; simp; omega
    · exact IH
/-- too large: by the program's measure and by the count of all parts -/
theorem meas_bad (e : Ex) : bad (e.meas 1 (0, 0)) ↔ 300 < e.parts ∨ 20 < e.depth := by
  have h := meas_ok e 0 (0, 0)
  have e1 : ((0, 0) : Nat × Nat).1 + e.parts = e.parts := by simp
  have e2 : max ((0, 0) : Nat × Nat).2 (0 + e.depth) = e.depth := by simp
  rw [e1, e2] at h
  by_cases hb : bad (e.parts, e.depth)
  · exact ⟨fun _ => hb, fun _ => h.2 hb⟩
  · rw [h.1 hb]; exact Iff.rfl
def reservedL : List (List UInt8) := [[97, 110, 100], [111, 114], [110, 111, 116], [105, 110], [104, 97, 115], [109, 111, 100], [116, 114, 117, 101], [102, 97, 108, 115, 101]]
def lowB (c : UInt8) : Bool := decide (97 ≤ c.toNat) && decide (c.toNat ≤ 122)
def wordB (c : UInt8) : Bool := lowB c || (decide (48 ≤ c.toNat) && decide (c.toNat ≤ 57)) || decide (c.toNat = 95)
def isNameF (s : List UInt8) : Bool := !decide (s = []) && decide (s.length ≤ 16) && (match s with | c :: _ => lowB c | [] => false) && !reservedL.contains s && s.all wordB
def zeroVal (v : Val) : Bool := decide (v.k = 0) && decide (v.n = 0) && decide (v.s.toList = []) && decide (v.l = [])
/-- how many arguments an operation has: least, most -/
def arOf (op : Int) : Nat × Nat :=
  if op = 2 ∨ op = 3 ∨ op = 24 ∨ op = 25 then (2, 1099511627776) else if op = 26 then (3, 3) else
  if op = 1 ∨ (12 ≤ op ∧ op ≤ 14) ∨ (20 ≤ op ∧ op ≤ 23) ∨ (28 ≤ op ∧ op ≤ 30) ∨ (34 ≤ op ∧ op ≤ 36) then (1, 1) else
  if 1 ≤ op ∧ op ≤ 39 then (2, 2) else (0, 0)
/-- the kind of the first argument -/
def headK (l : List Ex) : Int := match l with
  | a :: _ => a.k
  | [] => 0
def extraB (k op : Int) (nm : ByteArray) (v : Val) (n : Nat) : Bool :=
  if (k ≠ 1 ∧ zeroVal v = false) ∨ (¬ (k = 4 ∨ k = 5) ∧ (op ≠ 0 ∨ 0 < n)) ∨ (¬ (k = 2 ∨ k = 3 ∨ k = 5) ∧ nm.toList ≠ []) then true else
  if k = 5 then !decide (n = 1) else decide (k = 4) && (decide (n < (arOf op).1) || decide ((arOf op).2 < n))
def partB (k op : Int) (nm : ByteArray) (v : Val) (n : Nat) (hk : Int) : Int :=
  if outB k 1 5 = true then 4 else if k = 4 ∧ outB op 1 39 = true then 4 else if k = 5 ∧ outB op 1 6 = true then 4 else
  if extraB k op nm v n = true then 3 else
  if k = 1 then (if v.k = 0 ∨ v.k = 1 then 4 else checkV v) else
  if k = 4 then (if 12 ≤ op ∧ op ≤ 14 ∧ hk ≠ 2 then 3 else 0) else
  if isNameF nm.data.toList = true then 0 else 5
def partF (e : Ex) : Int := partB e.k e.op e.nm e.v e.ar.length (headK e.ar)
mutual
def Ex.fault : Ex → Int
  | .mk k op nm v ar => if partF (.mk k op nm v ar) ≠ 0 then partF (.mk k op nm v ar) else faultL ar
def faultL : List Ex → Int
  | [] => 0
  | a :: r => if a.fault ≠ 0 then a.fault else faultL r
end
theorem fault_eq (e : Ex) : e.fault = if partF e ≠ 0 then partF e else faultL e.ar := by cases e; rw [Ex.fault]; rfl
/-- CheckExpr -/
def checkE (e : Ex) : Int := if 300 < e.parts ∨ 20 < e.depth then 2 else e.fault
end Go.Proofs.YtpanbeoelbhhgaaGreatDoor
namespace Go.Proofs.YtpanbeoelbhhgaaGreatDoor
theorem fault_part {e : Ex} (h : e.fault = 0) : partF e = 0 := by
  rw [fault_eq] at h
  split at h
  · rename_i h1; exact absurd h h1
  · rename_i h1; exact Decidable.not_not.1 h1
theorem faultL_mem : ∀ {l : List Ex}, faultL l = 0 → ∀ a ∈ l, a.fault = 0
  | b :: r, h, a, ha => by
    rw [faultL] at h
    split at h
    · rename_i h1; exact absurd h h1
    · rename_i h1
      rcases List.mem_cons.1 ha with e | e
      · rw [e]; exact Decidable.not_not.1 h1
      · exact faultL_mem h a e
theorem fault_arg {e : Ex} (h : e.fault = 0) : ∀ a ∈ e.ar, a.fault = 0 := by
  have hp := fault_part h
  rw [fault_eq, if_neg (by rw [hp]; decide)] at h
  exact faultL_mem h
/-- what a part without fault is -/
structure PartOk (e : Ex) : Prop where
  k : 1 ≤ e.k ∧ e.k ≤ 5
  c : e.k = 1 → 2 ≤ e.v.k ∧ e.v.k ≤ 7
  a0 : e.k = 1 ∨ e.k = 2 ∨ e.k = 3 → e.ar = []
  op4 : e.k = 4 → 1 ≤ e.op ∧ e.op ≤ 39
  op5 : e.k = 5 → 1 ≤ e.op ∧ e.op ≤ 6
  a4 : e.k = 4 → (arOf e.op).1 ≤ e.ar.length ∧ e.ar.length ≤ (arOf e.op).2
  a5 : e.k = 5 → e.ar.length = 1
theorem outB_no {a b k : Int} (h : outB k a b = false) : a ≤ k ∧ k ≤ b := by
  unfold outB at h
  simp at h
  omega
theorem partOk {e : Ex} (h : partF e = 0) : PartOk e := by
  unfold partF partB at h
  by_cases c1 : outB e.k 1 5 = true
  · rw [if_pos c1] at h; exact absurd h (by decide)
  rw [if_neg c1] at h
  by_cases c2 : e.k = 4 ∧ outB e.op 1 39 = true
  · rw [if_pos c2] at h; exact absurd h (by decide)
  rw [if_neg c2] at h
  by_cases c3 : e.k = 5 ∧ outB e.op 1 6 = true
  · rw [if_pos c3] at h; exact absurd h (by decide)
  rw [if_neg c3] at h
  by_cases c4 : extraB e.k e.op e.nm e.v e.ar.length = true
  · rw [if_pos c4] at h; exact absurd h (by decide)
  rw [if_neg c4] at h
  have hk := outB_no (Bool.not_eq_true _ ▸ c1)
  unfold extraB at c4
  split at c4
  · exact absurd rfl c4
  rename_i hx
  refine ⟨hk, fun e1 => ?_, fun e1 => ?_, fun e1 => ?_, fun e1 => ?_, fun e1 => ?_, fun e1 => ?_⟩
  · rw [if_pos e1] at h
    split at h
    · exact absurd h (by decide)
    · rename_i hv
      unfold checkV at h
      split at h
      · exact absurd h (by decide)
      · rename_i hr
        have := outB_no (Bool.not_eq_true _ ▸ hr)
        omega
  · refine List.eq_nil_of_length_eq_zero ?_
    by_cases h0 : 0 < e.ar.length
    · exact absurd (Or.inr (Or.inl ⟨by omega, Or.inr h0⟩)) hx
    · omega
  · exact outB_no (Bool.not_eq_true _ ▸ fun q => c2 ⟨e1, q⟩)
  · exact outB_no (Bool.not_eq_true _ ▸ fun q => c3 ⟨e1, q⟩)
  · rw [if_neg (by omega)] at c4
    simp [e1] at c4
    exact c4
  · rw [if_pos e1] at c4
    simpa using c4
end Go.Proofs.YtpanbeoelbhhgaaGreatDoor
namespace Go.Proofs.YtpanbeoelbhhgaaGreatDoor
open Go.RowKit
/-- the eight cells of an expression -/
def exCells (e : Ex) (A : Option Addr) (c : Nat) (A' : Option Addr) (c' : Nat) : List Value :=
  [.int .i64 e.k, .int .i64 e.op, .string e.nm, .int .i64 e.v.k, .int .i64 e.v.n, .string e.v.s, .slice A e.v.l.length c, .slice A' e.ar.length c']
/-- an expression lies there, with all its parts -/
inductive ExAt (w : World) (B : Nat) : Ex → List Value → Prop
  | mk {e : Ex} {A : Option Addr} {c : Nat} {A' : Option Addr} {c' : Nat} {cs : List Value} (hn : e.nm.size ≤ maxLen) (hs : e.v.s.size ≤ maxLen) (hl : e.v.l.length ≤ maxLen) (ha : e.ar.length ≤ maxLen)
      (hx : Reads w B 1 A e.v.l.length (numV .i64 e.v.l)) (hr : Reads w B 8 A' e.ar.length cs) (hi : ∀ i (h : i < e.ar.length), ExAt w B e.ar[i] ((cs.drop (i * 8)).take 8)) : ExAt w B e (exCells e A c A' c')
theorem ExAt.keep {w w' : World} {B : Nat} {e : Ex} {cs : List Value} (h : ExAt w B e cs) (hb : Below B w w') : ExAt w' B e cs := by
  induction h with
  | mk hn hs hl ha hx hr hi ih => exact .mk hn hs hl ha (hx.below hb) (hr.below hb) ih
theorem ExAt.up {w : World} {B B' : Nat} {e : Ex} {cs : List Value} (h : ExAt w B e cs) (hB : B ≤ B') : ExAt w B' e cs := by
  induction h with
  | mk hn hs hl ha hx hr hi ih => exact .mk hn hs hl ha (hx.more hB) (hr.more hB) ih
/-- the argument at a place -/
theorem ExAt.arg {w : World} {B : Nat} {e : Ex} {A' : Option Addr} {cs : List Value} (hr : Reads w B 8 A' e.ar.length cs) (hi : ∀ i (h : i < e.ar.length), ExAt w B e.ar[i] ((cs.drop (i * 8)).take 8)) {i : Nat} (h : i < e.ar.length) :
    ∃ ad ci, A' = some ad ∧ ad.block < B ∧ ExAt w B e.ar[i] ci ∧ ∀ j u, ci[j]? = some u → w.cell? ((ad.add (i * 8)).add j) = some u := by
  obtain ⟨ad, rfl, hb, hc⟩ := hr.2 (by omega)
  refine ⟨ad, _, rfl, hb, hi i h, fun j u hu => ?_⟩
  rw [add_of_add]
  refine hc _ u ?_
  rw [List.getElem?_take] at hu
  split at hu
  · rw [List.getElem?_drop] at hu; exact hu
  · cases hu
theorem partsL_snoc (a : Ex) : ∀ l : List Ex, partsL (l ++ [a]) = partsL l + a.parts
  | [] => by simp [partsL]
  | b :: r => by rw [List.cons_append, partsL, partsL, partsL_snoc a r]; omega
theorem partsL_take (l : List Ex) : ∀ k, partsL (l.take k) ≤ partsL l := by
  induction l with
  | nil => intro k; simp [partsL]
  | cons a r ih =>
    intro k
    cases k with
    | zero => simp [partsL]
    | succ k => rw [List.take_succ_cons, partsL, partsL]; have := ih k; omega
end Go.Proofs.YtpanbeoelbhhgaaGreatDoor
namespace Go.Proofs.YtpanbeoelbhhgaaGreatDoor
open Go.RowKit
theorem isLower_any (c : UInt8) (w : World) :
    Calls Tryz.prog 86 #[.int .u8 (c.toNat : Nat)] w fun e w' => e = .returned (.bool (lowB c)) ∧ w = w' := by
  go_enter Tryz.func86, Tryz.ntmps86
  go_wp2
  all_goals (go_ret; exact ⟨ret_bool (by unfold lowB; rw [Bool.eq_iff_iff]; simp; try omega), rfl⟩)
theorem isWordByte_any (c : UInt8) (w : World) :
    Calls Tryz.prog 88 #[.int .u8 (c.toNat : Nat)] w fun e w' => e = .returned (.bool (wordB c)) ∧ w = w' := by
  go_enter Tryz.func88, Tryz.ntmps88
  go_wp2
  all_goals (go_ret; exact ⟨ret_bool (by unfold wordB lowB; rw [Bool.eq_iff_iff]; simp; try omega), rfl⟩)
theorem isReserved_yes (s : ByteArray) (w : World) (h : s.data.toList ∈ reservedL) :
    Calls Tryz.prog 87 #[.string s] w fun e w' => e = .returned (.bool true) ∧ w = w' := by
  have hh : s = ⟨#[97, 110, 100]⟩ ∨ s = ⟨#[111, 114]⟩ ∨ s = ⟨#[110, 111, 116]⟩ ∨ s = ⟨#[105, 110]⟩ ∨ s = ⟨#[104, 97, 115]⟩ ∨ s = ⟨#[109, 111, 100]⟩ ∨ s = ⟨#[116, 114, 117, 101]⟩ ∨ s = ⟨#[102, 97, 108, 115, 101]⟩ := by
    have hb : ∀ l : List UInt8, s.data.toList = l → s = ⟨l.toArray⟩ := fun l e => by subst e; rfl
    simp only [reservedL, List.mem_cons, List.mem_nil_iff, or_false] at h
    rcases h with h | h | h | h | h | h | h | h
    · exact .inl (hb _ h)
    · exact .inr (.inl (hb _ h))
    · exact .inr (.inr (.inl (hb _ h)))
    · exact .inr (.inr (.inr (.inl (hb _ h))))
    · exact .inr (.inr (.inr (.inr (.inl (hb _ h)))))
    · exact .inr (.inr (.inr (.inr (.inr (.inl (hb _ h))))))
    · exact .inr (.inr (.inr (.inr (.inr (.inr (.inl (hb _ h)))))))
    · exact .inr (.inr (.inr (.inr (.inr (.inr (.inr ((hb _ h))))))))
  rcases hh with rfl | rfl | rfl | rfl | rfl | rfl | rfl | rfl
  all_goals
    go_enter Tryz.func87, Tryz.ntmps87
    go_wp2
    go_ret
    exact ⟨rfl, rfl⟩
theorem isReserved_no (s : ByteArray) (w : World) (h : s.data.toList ∉ reservedL) :
    Calls Tryz.prog 87 #[.string s] w fun e w' => e = .returned (.bool false) ∧ w = w' := by
  have q0 : (s.toList == [97, 110, 100]) = false := by rw [ByteArray.toList_eq, beq_eq_false_iff_ne]; exact fun e => h (by rw [e]; decide)
  have q1 : (s.toList == [111, 114]) = false := by rw [ByteArray.toList_eq, beq_eq_false_iff_ne]; exact fun e => h (by rw [e]; decide)
  have q2 : (s.toList == [110, 111, 116]) = false := by rw [ByteArray.toList_eq, beq_eq_false_iff_ne]; exact fun e => h (by rw [e]; decide)
  have q3 : (s.toList == [105, 110]) = false := by rw [ByteArray.toList_eq, beq_eq_false_iff_ne]; exact fun e => h (by rw [e]; decide)
  have q4 : (s.toList == [104, 97, 115]) = false := by rw [ByteArray.toList_eq, beq_eq_false_iff_ne]; exact fun e => h (by rw [e]; decide)
  have q5 : (s.toList == [109, 111, 100]) = false := by rw [ByteArray.toList_eq, beq_eq_false_iff_ne]; exact fun e => h (by rw [e]; decide)
  have q6 : (s.toList == [116, 114, 117, 101]) = false := by rw [ByteArray.toList_eq, beq_eq_false_iff_ne]; exact fun e => h (by rw [e]; decide)
  have q7 : (s.toList == [102, 97, 108, 115, 101]) = false := by rw [ByteArray.toList_eq, beq_eq_false_iff_ne]; exact fun e => h (by rw [e]; decide)
  clear h
  go_enter Tryz.func87, Tryz.ntmps87
  go_wp2
  go_ret
  exact ⟨rfl, rfl⟩
theorem isReserved_any (s : ByteArray) (w : World) :
    Calls Tryz.prog 87 #[.string s] w fun e w' => e = .returned (.bool (reservedL.contains s.data.toList)) ∧ w = w' := by
  by_cases h : s.data.toList ∈ reservedL
  · rw [List.contains_iff_mem.2 h]; exact isReserved_yes s w h
  · rw [show reservedL.contains s.data.toList = false from by rw [Bool.eq_false_iff]; exact fun e => h (List.contains_iff_mem.1 e)]; exact isReserved_no s w h
theorem isName_empty {s : List UInt8} (h : s = []) : isNameF s = false := by subst h; rfl
theorem isName_long {s : List UInt8} (h : 16 < s.length) : isNameF s = false := by
  unfold isNameF
  rw [show decide (s.length ≤ 16) = false by simp; omega]
  simp
theorem isName_low {c : UInt8} {r : List UInt8} (h : lowB c = false) : isNameF (c :: r) = false := by simp [isNameF, h]
theorem isName_res {s : List UInt8} (h : reservedL.contains s = true) : isNameF s = false := by simp only [isNameF, h]; simp
theorem isName_rest {c : UInt8} {r : List UInt8} (h1 : (c :: r).length ≤ 16) (h2 : lowB c = true) (h3 : reservedL.contains (c :: r) = false) : isNameF (c :: r) = (c :: r).all wordB := by
  simp only [isNameF, h2, h3]
  simp
  intro _ _
  simpa using h1
theorem head_cons {s : ByteArray} (h : 0 < s.size) : s.data.toList = s[0] :: s.data.toList.tail := by
  have hl : 0 < s.data.toList.length := h
  rw [show s.data.toList.tail = s.data.toList.drop 1 by simp]
  have := List.drop_eq_getElem_cons hl
  rw [List.drop_zero] at this
  rw [this]
  rfl
theorem all_take {s : ByteArray} {k : Nat} {p : UInt8 → Bool} (h : k < s.size) (ht : (s.data.toList.take k).all p = true) : (s.data.toList.take (k + 1)).all p = p s[k] := by
  have hl : k < s.data.toList.length := h
  rw [List.take_succ_eq_append_getElem hl, List.all_append, ht]
  simp
  rfl
theorem all_bad {s : ByteArray} {k : Nat} {p : UInt8 → Bool} (h : k < s.size) (hp : p s[k] = false) : s.data.toList.all p = false := by
  have hl : k < s.data.toList.length := h
  rw [Bool.eq_false_iff]
  intro e
  rw [List.all_eq_true] at e
  have := e s.data.toList[k] (List.getElem_mem hl)
  rw [show s.data.toList[k] = s[k] from rfl, hp] at this
  cases this
set_option maxHeartbeats 2000000 in
set_option maxRecDepth 100000 in
theorem IsName_any (s : ByteArray) (w : World) (hs : s.size ≤ maxLen) :
    Calls Tryz.prog 54 #[.string s] w fun e w' => e = .returned (.bool (isNameF s.data.toList)) ∧ w = w' := by
  unfold maxLen at hs
  have hsl : s.data.toList.length = s.size := rfl
  by_cases h0 : s = ⟨#[]⟩
  · have HF := Lib.hid (isName_empty (s := s.data.toList) (by rw [h0]))
    subst h0
    go_enter Tryz.func54, Tryz.ntmps54
    go_wp2_with fail
    go_ret
    exact ⟨ret_bool (by rw [HF.out]), rfl⟩
  have hp : 0 < s.size := by
    rcases Nat.eq_zero_or_pos s.size with h | h
    · exact absurd (ByteArray.ext (Array.toList_inj.1 (List.eq_nil_of_length_eq_zero (hsl.trans h)))) h0
    · exact h
  have se : s.toList.isEmpty = false := by rw [ByteArray.toList_eq]; cases hh : s.data.toList with
    | nil => rw [hh] at hsl; simp at hsl; omega
    | cons a r => rfl
  have HC := Lib.hid (head_cons hp)
  by_cases h1 : 16 < s.size
  · have HF := Lib.hid (isName_long (s := s.data.toList) h1)
    have b1 : decide ((16 : Int) < (s.size : Nat)) = true := by simp; omega
    clear h0 hsl h1
    go_enter Tryz.func54, Tryz.ntmps54
    go_wp2_with fail
    go_ret
    exact ⟨ret_bool (by rw [HF.out]), rfl⟩
  have b1 : decide ((16 : Int) < (s.size : Nat)) = false := by simp; omega
  by_cases h2 : lowB s[0] = true
  rotate_left
  · have HF := Lib.hid (show isNameF s.data.toList = false by rw [HC.out]; exact isName_low (by simpa using h2))
    have HL := Lib.hid (show ∀ w', Calls Tryz.prog 86 #[.int .u8 (s[0].toNat : Nat)] w' fun e w'' => e = .returned (.bool false) ∧ w' = w'' from fun w' => by
      have h := isLower_any s[0] w'
      rwa [show lowB s[0] = false by simpa using h2] at h)
    clear h0 hsl h1 h2
    go_enter Tryz.func54, Tryz.ntmps54
    go_wp2_with fail
    refine (HL.out _).mono ?_
    rintro e w1 ⟨rfl, rfl⟩
    go_wp2_with fail
    go_ret
    exact ⟨ret_bool (by rw [HF.out]), rfl⟩
  have HL := Lib.hid (show ∀ w', Calls Tryz.prog 86 #[.int .u8 (s[0].toNat : Nat)] w' fun e w'' => e = .returned (.bool true) ∧ w' = w'' from fun w' => by
    have h := isLower_any s[0] w'
    rwa [h2] at h)
  by_cases h3 : reservedL.contains s.data.toList = true
  · have HF := Lib.hid (isName_res h3)
    have HR := Lib.hid (show ∀ w', Calls Tryz.prog 87 #[.string s] w' fun e w'' => e = .returned (.bool true) ∧ w' = w'' from fun w' => by
      have h := isReserved_any s w'
      rwa [h3] at h)
    clear h0 hsl h1 h2 h3
    go_enter Tryz.func54, Tryz.ntmps54
    go_wp2_with fail
    refine (HL.out _).mono ?_
    rintro e w1 ⟨rfl, rfl⟩
    go_wp2_with fail
    refine (HR.out _).mono ?_
    rintro e w1 ⟨rfl, rfl⟩
    go_wp2_with fail
    go_ret
    exact ⟨ret_bool (by rw [HF.out]), rfl⟩
  have h3' : reservedL.contains s.data.toList = false := by simpa using h3
  have HR := Lib.hid (show ∀ w', Calls Tryz.prog 87 #[.string s] w' fun e w'' => e = .returned (.bool false) ∧ w' = w'' from fun w' => by
    have h := isReserved_any s w'
    rwa [h3'] at h)
  have HF := Lib.hid (show isNameF s.data.toList = s.data.toList.all wordB by
    rw [HC.out] at h3' ⊢
    exact isName_rest (by rw [← HC.out]; omega) h2 h3')
  have hle : s.size ≤ 16 := by omega
  clear h0 hsl h1 h2 h3 h3'
  go_enter Tryz.func54, Tryz.ntmps54
  go_wp2_with fail
  refine (HL.out _).mono ?_
  rintro e w1 ⟨rfl, rfl⟩
  go_wp2_with fail
  refine (HR.out _).mono ?_
  rintro e w1 ⟨rfl, rfl⟩
  clear HL HR
  go_wp2_with fail
  go_loop [3] (fun i => ∃ k : Nat, k ≤ s.size ∧ i = .int .i64 k ∧ Hid ((s.data.toList.take k).all wordB = true)) (fun i => s.size - (intOf i).toNat)
  case atStart => exact ⟨0, Nat.zero_le _, rfl, Lib.hid rfl⟩
  case round =>
    obtain ⟨k, hk, rfl, HA⟩ := hrel
    by_cases hlt : k < s.size
    · obtain ⟨b, hb⟩ : ∃ b, wordB s[k] = b := ⟨_, rfl⟩
      have HB := Lib.hid hb
      have HS := Lib.hid ((all_take hlt HA.out).trans hb)
      have HLT := Lib.hid hlt
      have HW := Lib.hid (show Calls Tryz.prog 88 #[.int .u8 (s[k].toNat : Nat)] w fun e w'' => e = .returned (.bool b) ∧ w = w'' from by
        exact (isWordByte_any s[k] w).mono fun e w'' ⟨he, hw⟩ => ⟨he.trans (congrArg (fun x => Ending.returned (.bool x)) hb), hw⟩)
      clear hb
      go_wp2_with fail
      refine HW.out.mono ?_
      rintro e w1 ⟨rfl, rfl⟩
      cases b
      · have HG := Lib.hid (all_bad HLT.out HB.out)
        go_wp2_with fail
        go_ret
        exact ⟨ret_bool (by rw [HF.out, HG.out]), rfl⟩
      · go_wp2_with fail
        go_round
        case rel => exact ⟨k + 1, HLT.out, by go_num, HS⟩
        case measure =>
          have := HLT.out
          simp [intOf]
          omega
    · have HG := Lib.hid (show s.data.toList.all wordB = true by
        have h := HA.out
        rwa [List.take_of_length_le (by show s.size ≤ k; omega)] at h)
      go_wp2_with fail
      go_ret
      exact ⟨ret_bool (by rw [HF.out, HG.out]), rfl⟩
end Go.Proofs.YtpanbeoelbhhgaaGreatDoor
namespace Go.Proofs.YtpanbeoelbhhgaaGreatDoor
open Go.RowKit
theorem tabIs_below {w w' : World} {n : String} {k : IntKind} {l : List Int} (h : Lib.TabIs Tryz.prog w n k l) (hb : Below w.heap.size w w') : Lib.TabIs Tryz.prog w' n k l := by
  unfold Lib.TabIs World.var? at *
  cases hg : Tryz.prog.globalNamed n with
  | none => rw [hg] at h; cases h
  | some g =>
    rw [hg] at h
    simp only [Option.bind_some] at h ⊢
    have hlt : g < w.heap.size := by
      rcases Nat.lt_or_ge g w.heap.size with h' | h'
      · exact h'
      · rw [Array.getElem?_eq_none h'] at h; cases h
    rw [hb.block g hlt]
    exact h
end Go.Proofs.YtpanbeoelbhhgaaGreatDoor
