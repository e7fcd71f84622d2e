/- The walk of the parser's wordEnd. · Maps with string keys whose elements are known to the letter; lists of strings in memory; Equal, Contains and Clone of such lists. · Cells and loops of a scene: as they lie in memory, what is wrong with them, and the maps that a world holds. · The walk of readSet. -/
import Derived.Test.YtobanldeicclmaaGreatDoorP7
import Derived.Test.YtobanldeicclmaaGreatDoorPSh
import Derived.LoopN
import Derived.Test.YtobanldeicclmaaGreatDoorP3
import Derived.Maps.OwnSet
import Derived.StringKeys
import Derived.Test.YtobanldeicclmaaGreatDoorP6
namespace Go.Proofs.YtobanldeicclmaaGreatDoor
open Go.RowKit Vtx
theorem ext_drop (s : ByteArray) (i : Nat) : (s.extract i s.size).data.toList = s.data.toList.drop i := by
  rw [Lib.extract_data]
  exact List.take_of_length_le (by rw [List.length_drop, Array.length_toList]; exact Nat.le_refl _)
theorem index_brace : ∀ r : List UInt8, Lib.indexByte r 125 = if (125 : UInt8) ∈ r then ((braceN r : Nat) : Int) - 1 else -1
  | [] => by simp [Lib.indexByte]
  | b :: l => by
    rw [Lib.indexByte, braceN]
    by_cases hb : b = 125
    · subst hb
      rw [if_pos (by decide), if_pos (List.mem_cons_self ..), if_pos rfl]; rfl
    · have ih := index_brace l
      rw [if_neg (by simpa using hb), if_neg hb, ih]
      by_cases hm : (125 : UInt8) ∈ l
      · have hp : 1 ≤ braceN l := by
          cases l with
          | nil => cases hm
          | cons a l => rw [braceN]; split <;> omega
        rw [if_pos hm, if_pos (List.mem_cons_of_mem _ hm), if_neg (by simp; omega)]
        omega
      · rw [if_neg hm, if_pos (by decide), if_neg (fun h => by
          rcases List.mem_cons.1 h with e | e
          · exact hb e.symm
          · exact hm e)]
theorem brace_none : ∀ {r : List UInt8}, (125 : UInt8) ∉ r → braceN r = r.length
  | [], _ => rfl
  | b :: l, h => by
    rw [braceN, if_neg (fun e => h (by rw [e]; exact List.mem_cons_self ..)), brace_none (fun e => h (List.mem_cons_of_mem _ e)), List.length_cons]
theorem pre_two (a b c : UInt8) (r : List UInt8) : Lib.hasPrefix (c :: r) [a, b] = (decide (c = a) && (match r with
    | d :: _ => decide (d = b)
    | [] => false)) := by
  unfold Lib.hasPrefix
  cases r with
  | nil => simp [List.isPrefixOf]
  | cons d r =>
    have h : ∀ x y : UInt8, (x == y) = decide (y = x) := fun x y => by
      by_cases e : y = x
      · subst e; simp
      · rw [decide_eq_false e]; simpa using fun h => e h.symm
    simp [List.isPrefixOf, h]
theorem sign_pre (c : UInt8) (r : List UInt8) : signLen c r = if (Lib.hasPrefix (c :: r) [60, 62] || Lib.hasPrefix (c :: r) [60, 61] || Lib.hasPrefix (c :: r) [62, 61]) = true then 2 else 1 := by
  rw [pre_two, pre_two, pre_two]
  cases r with
  | nil => simp [signLen]
  | cons d r =>
    unfold signLen twoB
    dsimp only
    congr 1
    by_cases h1 : c = 60 <;> by_cases h2 : c = 62 <;> by_cases h3 : d = 62 <;> by_cases h4 : d = 61 <;> simp_all
theorem idx0 (w : World) : (Instr.index 107 (.agg #[.string ⟨#[60, 62]⟩, .string ⟨#[60, 61]⟩, .string ⟨#[62, 61]⟩]) (.int .i64 0)).run Tryz.prog w = .ok (.string ⟨#[60, 62]⟩) w := by simp [Instr.index, run_underlying Tryz.underlying107, go_sem]
theorem idx1 (w : World) : (Instr.index 107 (.agg #[.string ⟨#[60, 62]⟩, .string ⟨#[60, 61]⟩, .string ⟨#[62, 61]⟩]) (.int .i64 1)).run Tryz.prog w = .ok (.string ⟨#[60, 61]⟩) w := by simp [Instr.index, run_underlying Tryz.underlying107, go_sem]
theorem idx2 (w : World) : (Instr.index 107 (.agg #[.string ⟨#[60, 62]⟩, .string ⟨#[60, 61]⟩, .string ⟨#[62, 61]⟩]) (.int .i64 2)).run Tryz.prog w = .ok (.string ⟨#[62, 61]⟩) w := by simp [Instr.index, run_underlying Tryz.underlying107, go_sem]
set_option maxHeartbeats 2000000 in
set_option maxRecDepth 100000 in
theorem wordEnd_any (g : Nat) (s : ByteArray) (i : Nat) (w : World) (hc : w.cell? ⟨g, 0, none⟩ = some (.string s)) (hi : i < s.size) (hs : s.size ≤ 4000) :
    Calls Tryz.prog 53 #[.pointer (some ⟨g, 0, none⟩), .int .i64 (i : Nat)] w fun e w' => e = .returned (.int .i64 ((i + wordLen (s.data.toList.drop i) : Nat) : Int)) ∧ w = w' := by
  obtain ⟨K, hK⟩ : ∃ K, i + wordLen (s.data.toList.drop i) = K := ⟨_, rfl⟩
  rw [hK]
  have hd := drop_ba hi
  obtain ⟨r, hr⟩ : ∃ r, s.data.toList.drop (i + 1) = r := ⟨_, rfl⟩
  rw [hr] at hd
  rw [hd, wordLen] at hK
  have hii : (0 : Int) ≤ (i : Int) := by omega
  have hii2 : (i : Int) < (s.size : Int) := by omega
  obtain ⟨b1, hb1⟩ : ∃ b, lowB s[i] = b := ⟨_, rfl⟩
  obtain ⟨b2, hb2⟩ : ∃ b, digB s[i] = b := ⟨_, rfl⟩
  have HL := Lib.hid (show Calls Tryz.prog 78 #[.int .u8 (s[i].toNat : Nat)] w fun e w'' => e = .returned (.bool b1) ∧ w = w'' from by
    exact (isLower_any s[i] w).mono fun e w'' ⟨he, hw⟩ => ⟨he.trans (congrArg (fun x => Ending.returned (.bool x)) hb1), hw⟩)
  have HD := Lib.hid (show Calls Tryz.prog 80 #[.int .u8 (s[i].toNat : Nat)] w fun e w'' => e = .returned (.bool b2) ∧ w = w'' from by
    exact (isDigit_any s[i] w).mono fun e w'' ⟨he, hw⟩ => ⟨he.trans (congrArg (fun x => Ending.returned (.bool x)) hb2), hw⟩)
  rw [hb1, hb2] at hK
  cases b1
  rotate_left
  · rw [if_pos rfl] at hK
    have HKK := Lib.hid (show ((i : Nat) : Int) + ((spanP wordB (s.data.toList.drop i) : Nat) : Int) = (K : Nat) by rw [hd, spanP, low_word hb1, if_pos rfl]; omega)
    clear hb1 hb2 hK hd hr
    go_enter Tryz.func53, Tryz.ntmps53
    go_wp2_with (first | (go_at_call 78; refine HL.out.mono ?_; rintro e w1 ⟨rfl, rfl⟩) | (go_at_call 80; refine HD.out.mono ?_; rintro e w1 ⟨rfl, rfl⟩) | (go_at_call 79; refine (span_word g s (i) _ hc (by omega) hs).mono ?_; rintro e w1 ⟨rfl, rfl⟩))
    go_ret
    exact ⟨ret_int HKK.out, rfl⟩
  rw [if_neg (by decide)] at hK
  cases b2
  rotate_left
  · rw [if_pos rfl] at hK
    have HKK := Lib.hid (show ((i : Nat) : Int) + ((spanP stopB (s.data.toList.drop i) : Nat) : Int) = (K : Nat) by rw [hd, spanP, show stopB s[i] = true by unfold stopB; rw [hb2]; rfl, if_pos rfl]; omega)
    clear hb1 hb2 hK hd hr
    go_enter Tryz.func53, Tryz.ntmps53
    go_wp2_with (first | (go_at_call 78; refine HL.out.mono ?_; rintro e w1 ⟨rfl, rfl⟩) | (go_at_call 80; refine HD.out.mono ?_; rintro e w1 ⟨rfl, rfl⟩) | (go_at_call 79; refine (span_stop_ g s (i) _ hc (by omega) hs).mono ?_; rintro e w1 ⟨rfl, rfl⟩))
    go_ret
    exact ⟨ret_int HKK.out, rfl⟩
  rw [if_neg (by decide)] at hK
  by_cases h64 : s[i] = 64
  · rw [if_pos h64] at hK
    have y64 : ((s[i].toNat : Int) == 64) = true := by simp; have := (toNat_eq s[i] 64 (by decide)).1 h64; omega
    have HKK := Lib.hid (show ((i : Nat) : Int) + 1 + ((spanP hyphB (s.data.toList.drop (i + 1)) : Nat) : Int) = (K : Nat) by rw [hr]; omega)
    clear hb1 hb2 hK hd hr h64
    go_enter Tryz.func53, Tryz.ntmps53
    go_wp2_with (first | (go_at_call 78; refine HL.out.mono ?_; rintro e w1 ⟨rfl, rfl⟩) | (go_at_call 80; refine HD.out.mono ?_; rintro e w1 ⟨rfl, rfl⟩) | (go_at_call 79; refine (span_hyph g s (i + 1) _ hc (by omega) hs).mono ?_; rintro e w1 ⟨rfl, rfl⟩))
    go_ret
    exact ⟨ret_int HKK.out, rfl⟩
  rw [if_neg h64] at hK
  by_cases h35 : s[i] = 35
  · rw [if_pos h35] at hK
    have y35 : ((s[i].toNat : Int) == 35) = true := by simp; have := (toNat_eq s[i] 35 (by decide)).1 h35; omega
    have n64 : ((s[i].toNat : Int) == 64) = false := by simp; exact fun e => h64 ((toNat_eq s[i] 64 (by decide)).2 (by omega))
    have HKK := Lib.hid (show ((i : Nat) : Int) + 1 + ((spanP digB (s.data.toList.drop (i + 1)) : Nat) : Int) = (K : Nat) by rw [hr]; omega)
    clear hb1 hb2 hK hd hr h64 h35
    go_enter Tryz.func53, Tryz.ntmps53
    go_wp2_with (first | (go_at_call 78; refine HL.out.mono ?_; rintro e w1 ⟨rfl, rfl⟩) | (go_at_call 80; refine HD.out.mono ?_; rintro e w1 ⟨rfl, rfl⟩) | (go_at_call 79; refine (span_dig g s (i + 1) _ hc (by omega) hs).mono ?_; rintro e w1 ⟨rfl, rfl⟩))
    go_ret
    exact ⟨ret_int HKK.out, rfl⟩
  rw [if_neg h35] at hK
  by_cases h39 : s[i] = 39
  · rw [if_pos h39] at hK
    have y39 : ((s[i].toNat : Int) == 39) = true := by simp; have := (toNat_eq s[i] 39 (by decide)).1 h39; omega
    have n64 : ((s[i].toNat : Int) == 64) = false := by simp; exact fun e => h64 ((toNat_eq s[i] 64 (by decide)).2 (by omega))
    have n35 : ((s[i].toNat : Int) == 35) = false := by simp; exact fun e => h35 ((toNat_eq s[i] 35 (by decide)).2 (by omega))
    have HKK := Lib.hid (show ((i : Nat) : Int) + 1 + ((quotedN (s.data.toList.drop (i + 1)) : Nat) : Int) = (K : Nat) by rw [hr]; omega)
    clear hb1 hb2 hK hd hr h64 h35 h39
    go_enter Tryz.func53, Tryz.ntmps53
    go_wp2_with (first | (go_at_call 78; refine HL.out.mono ?_; rintro e w1 ⟨rfl, rfl⟩) | (go_at_call 80; refine HD.out.mono ?_; rintro e w1 ⟨rfl, rfl⟩) | (go_at_call 83; refine (quoted_any g s i _ hc hi hs).mono ?_; rintro e w1 ⟨rfl, rfl⟩))
    go_ret
    exact ⟨ret_int HKK.out, rfl⟩
  rw [if_neg h39] at hK
  by_cases h123 : s[i] = 123
  · rw [if_pos h123] at hK
    have y123 : ((s[i].toNat : Int) == 123) = true := by simp; have := (toNat_eq s[i] 123 (by decide)).1 h123; omega
    have n64 : ((s[i].toNat : Int) == 64) = false := by simp; exact fun e => h64 ((toNat_eq s[i] 64 (by decide)).2 (by omega))
    have n35 : ((s[i].toNat : Int) == 35) = false := by simp; exact fun e => h35 ((toNat_eq s[i] 35 (by decide)).2 (by omega))
    have n39 : ((s[i].toNat : Int) == 39) = false := by simp; exact fun e => h39 ((toNat_eq s[i] 39 (by decide)).2 (by omega))
    have HIB := Lib.hid (show ∀ w', Calls Tryz.prog 58 #[.string (s.extract i s.size), .int .u8 125] w' fun e w'' => e = .returned (.int .i64 (Lib.indexByte (s.data.toList.drop i) 125)) ∧ w'' = w' from fun w' => by
      have h := Tryz.strings_IndexByte (s.extract i s.size) 125 w'
      rwa [ext_drop] at h)
    have hix : Lib.indexByte (s.data.toList.drop i) 125 = if (125 : UInt8) ∈ r then ((braceN r : Nat) : Int) else -1 := by
      rw [hd, index_brace, h123]
      have hm : ((125 : UInt8) ∈ (123 : UInt8) :: r) ↔ (125 : UInt8) ∈ r := by simp
      by_cases h : (125 : UInt8) ∈ r
      · rw [if_pos (hm.2 h), if_pos h, braceN, if_neg (by decide)]; omega
      · rw [if_neg (fun e => h (hm.1 e)), if_neg h]
    have hrl : r.length + (i + 1) = s.size := by rw [← hr, List.length_drop, Array.length_toList]; show s.size - (i + 1) + (i + 1) = _; omega
    have hbl := brace_le r
    by_cases hm : (125 : UInt8) ∈ r
    · rw [if_pos hm] at hix
      rw [hix] at HIB
      obtain ⟨N, hN⟩ : ∃ N, braceN r = N := ⟨_, rfl⟩
      rw [hN] at HIB hK hbl
      have HKK := Lib.hid (show ((i : Nat) : Int) + (N : Nat) + 1 = (K : Nat) by omega)
      have hNs : N ≤ 4000 := by omega
      clear hb1 hb2 hK hd hr h64 h35 h39 h123 hm hix hN hbl hrl
      go_enter Tryz.func53, Tryz.ntmps53
      go_wp2_with (first | (go_at_call 78; refine HL.out.mono ?_; rintro e w1 ⟨rfl, rfl⟩) | (go_at_call 80; refine HD.out.mono ?_; rintro e w1 ⟨rfl, rfl⟩) | (go_at_call 58; refine (HIB.out _).mono ?_; rintro e w1 ⟨rfl, rfl⟩))
      go_ret
      exact ⟨ret_int HKK.out, rfl⟩
    · rw [if_neg hm] at hix
      rw [hix] at HIB
      have HKK := Lib.hid (show ((s.size : Nat) : Int) = (K : Nat) by rw [brace_none hm] at hK; omega)
      clear hb1 hb2 hK hd hr h64 h35 h39 h123 hm hix hbl hrl
      go_enter Tryz.func53, Tryz.ntmps53
      go_wp2_with (first | (go_at_call 78; refine HL.out.mono ?_; rintro e w1 ⟨rfl, rfl⟩) | (go_at_call 80; refine HD.out.mono ?_; rintro e w1 ⟨rfl, rfl⟩) | (go_at_call 58; refine (HIB.out _).mono ?_; rintro e w1 ⟨rfl, rfl⟩))
      go_ret
      exact ⟨ret_int HKK.out, rfl⟩
  rw [if_neg h123] at hK
  have n64 : ((s[i].toNat : Int) == 64) = false := by simp; exact fun e => h64 ((toNat_eq s[i] 64 (by decide)).2 (by omega))
  have n35 : ((s[i].toNat : Int) == 35) = false := by simp; exact fun e => h35 ((toNat_eq s[i] 35 (by decide)).2 (by omega))
  have n39 : ((s[i].toNat : Int) == 39) = false := by simp; exact fun e => h39 ((toNat_eq s[i] 39 (by decide)).2 (by omega))
  have n123 : ((s[i].toNat : Int) == 123) = false := by simp; exact fun e => h123 ((toNat_eq s[i] 123 (by decide)).2 (by omega))
  rw [sign_pre] at hK
  obtain ⟨q1, hq1⟩ : ∃ b, Lib.hasPrefix (s[i] :: r) [60, 62] = b := ⟨_, rfl⟩
  have Hq1 := Lib.hid (show ∀ w', Calls Tryz.prog 59 #[.string (s.extract i s.size), .string ⟨#[60, 62]⟩] w' fun e w'' => e = .returned (.bool q1) ∧ w'' = w' from fun w' => by
    have h := Tryz.strings_HasPrefix (s.extract i s.size) ⟨#[60, 62]⟩ w'
    rw [ext_drop, hd] at h
    rwa [hq1] at h)
  obtain ⟨q2, hq2⟩ : ∃ b, Lib.hasPrefix (s[i] :: r) [60, 61] = b := ⟨_, rfl⟩
  have Hq2 := Lib.hid (show ∀ w', Calls Tryz.prog 59 #[.string (s.extract i s.size), .string ⟨#[60, 61]⟩] w' fun e w'' => e = .returned (.bool q2) ∧ w'' = w' from fun w' => by
    have h := Tryz.strings_HasPrefix (s.extract i s.size) ⟨#[60, 61]⟩ w'
    rw [ext_drop, hd] at h
    rwa [hq2] at h)
  obtain ⟨q3, hq3⟩ : ∃ b, Lib.hasPrefix (s[i] :: r) [62, 61] = b := ⟨_, rfl⟩
  have Hq3 := Lib.hid (show ∀ w', Calls Tryz.prog 59 #[.string (s.extract i s.size), .string ⟨#[62, 61]⟩] w' fun e w'' => e = .returned (.bool q3) ∧ w'' = w' from fun w' => by
    have h := Tryz.strings_HasPrefix (s.extract i s.size) ⟨#[62, 61]⟩ w'
    rw [ext_drop, hd] at h
    rwa [hq3] at h)
  have X0 := idx0
  have X1 := idx1
  have X2 := idx2
  rw [hq1, hq2, hq3] at hK
  clear hb1 hb2 hd hr h64 h35 h39 h123 hq1 hq2 hq3
  cases q1
  rotate_left
  · have HKK := Lib.hid (show ((i : Nat) : Int) + 2 = (K : Nat) by have h := (show i + 2 = K by simpa using hK); omega)
    clear hK
    go_enter Tryz.func53, Tryz.ntmps53
    go_wp2_with (first | (go_at_call 78; refine HL.out.mono ?_; rintro e w1 ⟨rfl, rfl⟩) | (go_at_call 80; refine HD.out.mono ?_; rintro e w1 ⟨rfl, rfl⟩) | fail)
    refine wp_loop_rounds 4 ?_
    (rw [rounds_succ]; go_wp2_with (first | (go_at_call 59; refine (Hq1.out _).mono ?_; rintro e w1 ⟨rfl, rfl⟩) | (go_at_call 59; refine (Hq2.out _).mono ?_; rintro e w1 ⟨rfl, rfl⟩) | (go_at_call 59; refine (Hq3.out _).mono ?_; rintro e w1 ⟨rfl, rfl⟩)))
    go_ret
    exact ⟨ret_int HKK.out, rfl⟩
  cases q2
  rotate_left
  · have HKK := Lib.hid (show ((i : Nat) : Int) + 2 = (K : Nat) by have h := (show i + 2 = K by simpa using hK); omega)
    clear hK
    go_enter Tryz.func53, Tryz.ntmps53
    go_wp2_with (first | (go_at_call 78; refine HL.out.mono ?_; rintro e w1 ⟨rfl, rfl⟩) | (go_at_call 80; refine HD.out.mono ?_; rintro e w1 ⟨rfl, rfl⟩) | fail)
    refine wp_loop_rounds 4 ?_
    (rw [rounds_succ]; go_wp2_with (first | (go_at_call 59; refine (Hq1.out _).mono ?_; rintro e w1 ⟨rfl, rfl⟩) | (go_at_call 59; refine (Hq2.out _).mono ?_; rintro e w1 ⟨rfl, rfl⟩) | (go_at_call 59; refine (Hq3.out _).mono ?_; rintro e w1 ⟨rfl, rfl⟩)))
    (rw [rounds_succ]; go_wp2_with (first | (go_at_call 59; refine (Hq1.out _).mono ?_; rintro e w1 ⟨rfl, rfl⟩) | (go_at_call 59; refine (Hq2.out _).mono ?_; rintro e w1 ⟨rfl, rfl⟩) | (go_at_call 59; refine (Hq3.out _).mono ?_; rintro e w1 ⟨rfl, rfl⟩)))
    go_ret
    exact ⟨ret_int HKK.out, rfl⟩
  cases q3
  rotate_left
  · have HKK := Lib.hid (show ((i : Nat) : Int) + 2 = (K : Nat) by have h := (show i + 2 = K by simpa using hK); omega)
    clear hK
    go_enter Tryz.func53, Tryz.ntmps53
    go_wp2_with (first | (go_at_call 78; refine HL.out.mono ?_; rintro e w1 ⟨rfl, rfl⟩) | (go_at_call 80; refine HD.out.mono ?_; rintro e w1 ⟨rfl, rfl⟩) | fail)
    refine wp_loop_rounds 4 ?_
    (rw [rounds_succ]; go_wp2_with (first | (go_at_call 59; refine (Hq1.out _).mono ?_; rintro e w1 ⟨rfl, rfl⟩) | (go_at_call 59; refine (Hq2.out _).mono ?_; rintro e w1 ⟨rfl, rfl⟩) | (go_at_call 59; refine (Hq3.out _).mono ?_; rintro e w1 ⟨rfl, rfl⟩)))
    (rw [rounds_succ]; go_wp2_with (first | (go_at_call 59; refine (Hq1.out _).mono ?_; rintro e w1 ⟨rfl, rfl⟩) | (go_at_call 59; refine (Hq2.out _).mono ?_; rintro e w1 ⟨rfl, rfl⟩) | (go_at_call 59; refine (Hq3.out _).mono ?_; rintro e w1 ⟨rfl, rfl⟩)))
    (rw [rounds_succ]; go_wp2_with (first | (go_at_call 59; refine (Hq1.out _).mono ?_; rintro e w1 ⟨rfl, rfl⟩) | (go_at_call 59; refine (Hq2.out _).mono ?_; rintro e w1 ⟨rfl, rfl⟩) | (go_at_call 59; refine (Hq3.out _).mono ?_; rintro e w1 ⟨rfl, rfl⟩)))
    go_ret
    exact ⟨ret_int HKK.out, rfl⟩
  have HKK := Lib.hid (show ((i : Nat) : Int) + 1 = (K : Nat) by have h := (show i + 1 = K by simpa using hK); omega)
  clear hK
  go_enter Tryz.func53, Tryz.ntmps53
  go_wp2_with (first | (go_at_call 78; refine HL.out.mono ?_; rintro e w1 ⟨rfl, rfl⟩) | (go_at_call 80; refine HD.out.mono ?_; rintro e w1 ⟨rfl, rfl⟩) | fail)
  refine wp_loop_rounds 4 ?_
  (rw [rounds_succ]; go_wp2_with (first | (go_at_call 59; refine (Hq1.out _).mono ?_; rintro e w1 ⟨rfl, rfl⟩) | (go_at_call 59; refine (Hq2.out _).mono ?_; rintro e w1 ⟨rfl, rfl⟩) | (go_at_call 59; refine (Hq3.out _).mono ?_; rintro e w1 ⟨rfl, rfl⟩)))
  (rw [rounds_succ]; go_wp2_with (first | (go_at_call 59; refine (Hq1.out _).mono ?_; rintro e w1 ⟨rfl, rfl⟩) | (go_at_call 59; refine (Hq2.out _).mono ?_; rintro e w1 ⟨rfl, rfl⟩) | (go_at_call 59; refine (Hq3.out _).mono ?_; rintro e w1 ⟨rfl, rfl⟩)))
  (rw [rounds_succ]; go_wp2_with (first | (go_at_call 59; refine (Hq1.out _).mono ?_; rintro e w1 ⟨rfl, rfl⟩) | (go_at_call 59; refine (Hq2.out _).mono ?_; rintro e w1 ⟨rfl, rfl⟩) | (go_at_call 59; refine (Hq3.out _).mono ?_; rintro e w1 ⟨rfl, rfl⟩)))
  (rw [rounds_succ]; go_wp2_with (first | (go_at_call 59; refine (Hq1.out _).mono ?_; rintro e w1 ⟨rfl, rfl⟩) | (go_at_call 59; refine (Hq2.out _).mono ?_; rintro e w1 ⟨rfl, rfl⟩) | (go_at_call 59; refine (Hq3.out _).mono ?_; rintro e w1 ⟨rfl, rfl⟩)))
  go_ret
  exact ⟨ret_int HKK.out, rfl⟩
end Go.Proofs.YtobanldeicclmaaGreatDoor
namespace Go.Proofs.YtobanldeicclmaaGreatDoor
open Go.RowKit
def strV (l : List ByteArray) : List Value := l.map Value.string
theorem strV_len (l : List ByteArray) : (strV l).length = l.length := by simp [strV]
theorem Reads.plain {w : World} {B n : Nat} {A : Option Addr} {xs : List Value} (h : Reads w B 1 A n xs) (hn : 0 < n) : ∃ b o, A = some ⟨b, o, none⟩ ∧ b < B ∧ ∀ j u, xs[j]? = some u → w.cell? ⟨b, o + j, none⟩ = some u := by
  obtain ⟨ad, rfl, hb, hc⟩ := h.2 hn
  have hl : 0 < xs.length := by have := h.1; omega
  have h0 := hc 0 _ (List.getElem?_eq_getElem hl)
  obtain ⟨b, o, s⟩ := ad
  have hs : s = none := by
    cases s with
    | none => rfl
    | some z =>
      rw [show Addr.add ⟨b, o, some z⟩ 0 = ⟨b, o, some z⟩ from rfl] at h0
      unfold World.cell? at h0
      simp at h0
      split at h0 <;> simp at h0
  subst hs
  refine ⟨b, o, rfl, hb, fun j u hu => ?_⟩
  have := hc j u hu
  unfold Addr.add at this
  split at this
  · rename_i e; subst e; exact this
  · exact this
abbrev StrsAt (w : World) (B : Nat) (A : Option Addr) (l : List ByteArray) : Prop := Reads w B 1 A l.length (strV l)
theorem StrsAt.cells {w : World} {b o : Nat} {l : List ByteArray} (h : ∀ j u, (strV l)[j]? = some u → w.cell? ⟨b, o + j, none⟩ = some u) : ∀ j, j < l.length → w.cell? ⟨b, o + j, none⟩ = some (.string (l.getD j ByteArray.empty)) := by
  intro j hj
  refine h j _ ?_
  unfold strV
  rw [List.getElem?_map, List.getElem?_eq_getElem hj]
  simp [List.getD, hj]
def R0 (v : Value) : Option (DataW Value × List MemPlace) := some (.held v, [])
def getK (kv : List (ByteArray × Value)) (s : ByteArray) : Option Value := match kv with
  | [] => none
  | p :: r => if p.1 = s then some p.2 else getK r s
/-- the map in block b holds just these entries (the first one of a key counts) -/
structure MapIs (w : World) (b : Nat) (kv : List (ByteArray × Value)) : Prop where
  ex : ∃ D, w.ownsMap Tryz.prog 9 R0 b kv.length D ∧ Maps.IsMap D ∧ ∀ (s : ByteArray) zd, D.atKey (.string s.data.toList) zd = (match getK kv s with | some v => .held v | none => zd)
theorem MapIs.lt {w : World} {b : Nat} {kv : List (ByteArray × Value)} (h : MapIs w b kv) : b < w.heap.size := h.ex.choose_spec.1.lt
theorem MapIs.same {w w' : World} {b : Nat} {kv : List (ByteArray × Value)} (h : MapIs w b kv) (hb : w'.heap[b]? = w.heap[b]?) : MapIs w' b kv := by
  obtain ⟨D, ⟨es, clock, h0, h1⟩, h2, h3⟩ := h.ex
  exact ⟨⟨D, ⟨es, clock, hb.trans h0, h1⟩, h2, h3⟩⟩
theorem MapIs.alloc {w : World} {b : Nat} {kv : List (ByteArray × Value)} (h : MapIs w b kv) (o : Obj) : MapIs (w.alloc o) b kv := h.same (Below.heap_alloc w o b h.lt)
theorem MapIs.setCell {w : World} {b : Nat} {kv : List (ByteArray × Value)} (h : MapIs w b kv) {p : Addr} (hp : b ≠ p.block) (u : Value) : MapIs (w.setCell p u) b kv := h.same (Below.heap_setCell w p u b hp)
theorem MapIs.below {w w' : World} {b B : Nat} {kv : List (ByteArray × Value)} (h : MapIs w b kv) (hb : Below B w w') (hB : b < B) : MapIs w' b kv := h.same (hb.block b hB)
end Go.Proofs.YtobanldeicclmaaGreatDoor
namespace Go.Proofs.YtobanldeicclmaaGreatDoor
open Go.RowKit
/-- a slice whose elements, of so many cells each, lie there -/
def LiesAt {α : Type} (P : World → Nat → α → List Value → Prop) (size : Nat) (w : World) (B : Nat) (A : Option Addr) (l : List α) : Prop :=
  l.length ≤ maxLen ∧ ∃ cs, Reads w B size A l.length cs ∧ ∀ i (h : i < l.length), P w B l[i] ((cs.drop (i * size)).take size)
section
variable {α : Type} {P : World → Nat → α → List Value → Prop} {size B : Nat} {w w' : World} {A : Option Addr} {l : List α}
theorem LiesAt.at_ (h : LiesAt P size w B A l) {i : Nat} (hi : i < l.length) : ∃ ad ci, A = some ad ∧ ad.block < B ∧ P w B l[i] ci ∧ ∀ j u, ci[j]? = some u → w.cell? ((ad.add (i * size)).add j) = some u := by
  obtain ⟨-, cs, hr, hp⟩ := h
  obtain ⟨ad, rfl, hb, hc⟩ := hr.2 (by omega)
  refine ⟨ad, _, rfl, hb, hp i hi, fun j u hu => ?_⟩
  rw [add_of_add]
  refine hc _ u ?_
  rw [List.getElem?_take] at hu
  split at hu
  · rw [List.getElem?_drop] at hu; exact hu
  · cases hu
theorem LiesAt.keep (hP : ∀ d cs, P w B d cs → P w' B d cs) (h : LiesAt P size w B A l) (hb : Below B w w') : LiesAt P size w' B A l := by
  obtain ⟨h0, cs, hr, hp⟩ := h
  exact ⟨h0, cs, hr.below hb, fun i hi => hP _ _ (hp i hi)⟩
end
structure NestD where
  nm : ByteArray
  loops : List ByteArray
structure CellD where
  nm : ByteArray
  kind : Int
  loops : List ByteArray
structure NestAt (w : World) (B : Nat) (d : NestD) (cs : List Value) : Prop where
  ex : ∃ A c, cs = [.string d.nm, .slice A d.loops.length c] ∧ StrsAt w B A d.loops ∧ d.loops.length ≤ c
  h1 : d.nm.size ≤ maxLen
  h2 : d.loops.length ≤ maxLen
  h3 : ∀ s ∈ d.loops, s.size ≤ maxLen
structure CellAt (w : World) (B : Nat) (d : CellD) (cs : List Value) : Prop where
  ex : ∃ A c, cs = [.string d.nm, .int .i64 d.kind, .slice A d.loops.length c] ∧ StrsAt w B A d.loops ∧ d.loops.length ≤ c
  h1 : d.nm.size ≤ maxLen
  h2 : d.loops.length ≤ maxLen
  h3 : ∀ s ∈ d.loops, s.size ≤ maxLen
theorem NestAt.keep {w w' : World} {B : Nat} {d : NestD} {cs : List Value} (h : NestAt w B d cs) (hb : Below B w w') : NestAt w' B d cs := by
  obtain ⟨⟨A, c, e, hx, hc⟩, h1, h2, h3⟩ := h
  exact ⟨⟨A, c, e, hx.below hb, hc⟩, h1, h2, h3⟩
theorem CellAt.keep {w w' : World} {B : Nat} {d : CellD} {cs : List Value} (h : CellAt w B d cs) (hb : Below B w w') : CellAt w' B d cs := by
  obtain ⟨⟨A, c, e, hx, hc⟩, h1, h2, h3⟩ := h
  exact ⟨⟨A, c, e, hx.below hb, hc⟩, h1, h2, h3⟩
abbrev NestsAt := LiesAt NestAt 2
abbrev CellsAt := LiesAt CellAt 3
theorem NestsAt.keep {w w' : World} {B : Nat} {A : Option Addr} {l : List NestD} (h : NestsAt w B A l) (hb : Below B w w') : NestsAt w' B A l := LiesAt.keep (fun _ _ h => h.keep hb) h hb
theorem CellsAt.keep {w w' : World} {B : Nat} {A : Option Addr} {l : List CellD} (h : CellsAt w B A l) (hb : Below B w w') : CellsAt w' B A l := LiesAt.keep (fun _ _ h => h.keep hb) h hb
theorem StrsAt.take {w : World} {B : Nat} {A : Option Addr} {l : List ByteArray} (h : StrsAt w B A l) (k : Nat) : StrsAt w B A (l.take k) := by
  refine ⟨by rw [strV_len]; simp, fun hn => ?_⟩
  have hk : (l.take k).length ≤ l.length := List.length_take_le' _ _
  obtain ⟨ad, e, hb, hc⟩ := h.2 (by omega)
  refine ⟨ad, e, hb, fun j u hu => hc j u ?_⟩
  unfold strV at hu ⊢
  rw [List.map_take, List.getElem?_take] at hu
  split at hu
  · exact hu
  · cases hu
/-- a map of the program's holds just these loops -/
structure KvN (w : World) (B : Nat) (kv : List (ByteArray × Value)) (l : List NestD) : Prop where
  no : ∀ s, getK kv s = none → ∀ d ∈ l, d.nm ≠ s
  yes : ∀ s v, getK kv s = some v → ∃ d cs, d ∈ l ∧ d.nm = s ∧ v = .agg cs.toArray ∧ NestAt w B d cs
  len : kv.length = l.length
  one : l.Pairwise (fun a b => a.nm ≠ b.nm)
structure KvC (w : World) (B : Nat) (kv : List (ByteArray × Value)) (l : List CellD) : Prop where
  no : ∀ s, getK kv s = none → ∀ d ∈ l, d.nm ≠ s
  yes : ∀ s v, getK kv s = some v → ∃ d cs, d ∈ l ∧ d.nm = s ∧ v = .agg cs.toArray ∧ CellAt w B d cs
  len : kv.length = l.length
  one : l.Pairwise (fun a b => a.nm ≠ b.nm)
theorem KvN.keep {w w' : World} {B : Nat} {kv : List (ByteArray × Value)} {l : List NestD} (h : KvN w B kv l) (hb : Below B w w') : KvN w' B kv l :=
  ⟨h.no, fun s v hv => by obtain ⟨d, cs, h1, h2, h3, h4⟩ := h.yes s v hv; exact ⟨d, cs, h1, h2, h3, h4.keep hb⟩, h.len, h.one⟩
theorem KvC.keep {w w' : World} {B : Nat} {kv : List (ByteArray × Value)} {l : List CellD} (h : KvC w B kv l) (hb : Below B w w') : KvC w' B kv l :=
  ⟨h.no, fun s v hv => by obtain ⟨d, cs, h1, h2, h3, h4⟩ := h.yes s v hv; exact ⟨d, cs, h1, h2, h3, h4.keep hb⟩, h.len, h.one⟩
theorem KvN.nil (w : World) (B : Nat) : KvN w B [] [] := ⟨(fun _ _ d hd => by cases hd), (fun s v hv => by cases hv), rfl, List.Pairwise.nil⟩
theorem KvC.nil (w : World) (B : Nat) : KvC w B [] [] := ⟨(fun _ _ d hd => by cases hd), (fun s v hv => by cases hv), rfl, List.Pairwise.nil⟩
theorem KvN.add {w : World} {B : Nat} {kv : List (ByteArray × Value)} {l : List NestD} (h : KvN w B kv l) {d : NestD} {cs : List Value} (hd : NestAt w B d cs) (hn : getK kv d.nm = none) : KvN w B ((d.nm, .agg cs.toArray) :: kv) (l ++ [d]) := by
  refine ⟨fun s hs x hx => ?_, fun s v hv => ?_, by simp [h.len], ?_⟩
  · rw [getK] at hs
    split at hs
    · cases hs
    · rename_i hne
      rcases List.mem_append.1 hx with h1 | h1
      · exact h.no s hs x h1
      · rw [List.mem_singleton] at h1; subst h1; exact hne
  · rw [getK] at hv
    split at hv
    · rename_i he
      injection hv with hv
      exact ⟨d, cs, by simp, he, hv.symm, hd⟩
    · obtain ⟨d', cs', h1, h2, h3, h4⟩ := h.yes s v hv
      exact ⟨d', cs', List.mem_append_left _ h1, h2, h3, h4⟩
  · rw [List.pairwise_append]
    refine ⟨h.one, List.pairwise_singleton _ _, fun a ha b hb => ?_⟩
    rw [List.mem_singleton] at hb
    subst hb
    exact h.no _ hn a ha
theorem KvC.add {w : World} {B : Nat} {kv : List (ByteArray × Value)} {l : List CellD} (h : KvC w B kv l) {d : CellD} {cs : List Value} (hd : CellAt w B d cs) (hn : getK kv d.nm = none) : KvC w B ((d.nm, .agg cs.toArray) :: kv) (l ++ [d]) := by
  refine ⟨fun s hs x hx => ?_, fun s v hv => ?_, by simp [h.len], ?_⟩
  · rw [getK] at hs
    split at hs
    · cases hs
    · rename_i hne
      rcases List.mem_append.1 hx with h1 | h1
      · exact h.no s hs x h1
      · rw [List.mem_singleton] at h1; subst h1; exact hne
  · rw [getK] at hv
    split at hv
    · rename_i he
      injection hv with hv
      exact ⟨d, cs, by simp, he, hv.symm, hd⟩
    · obtain ⟨d', cs', h1, h2, h3, h4⟩ := h.yes s v hv
      exact ⟨d', cs', List.mem_append_left _ h1, h2, h3, h4⟩
  · rw [List.pairwise_append]
    refine ⟨h.one, List.pairwise_singleton _ _, fun a ha b hb => ?_⟩
    rw [List.mem_singleton] at hb
    subst hb
    exact h.no _ hn a ha
end Go.Proofs.YtobanldeicclmaaGreatDoor
namespace Go.Proofs.YtobanldeicclmaaGreatDoor
open Go.RowKit Dig Vtx
theorem infoInt : (Tryz.prog.info? 3).map (fun i => (i.zero, i.size, i.bytes)) = some (some (.int .i64 0), 1, 8) := by kernel_rfl
theorem trimSuf (s p : ByteArray) (w : World) (hs : s.size ≤ 2000000) :
    Calls Tryz.prog 186 #[.string s, .string p] w fun e w' => (∃ t : ByteArray, e = .returned (.string t) ∧ t.data.toList = Lib.trimSuffix s.data.toList p.data.toList) ∧ w = w' :=
  (Tryz.strings_TrimSuffix s p w (by omega)).mono fun _ _ ⟨he, hw⟩ => ⟨⟨_, he, rfl⟩, hw.symm⟩
theorem own_set {w : World} {B size n g i : Nat} {e : TypeId} {v : Value} {xs : List Value} (h : w.ownsRow B e size v n xs) (hg : g < B) (u : Value) : (w.setCell ⟨g, i, none⟩ u).ownsRow B e size v n xs := by
  refine ⟨h.1, h.2.imp id ?_⟩
  rintro ⟨g', cap, cur, e0, e1, e2, e3, e4, e5, e6⟩
  exact ⟨g', cap, cur, e0, e1, by rw [Below.heap_setCell w ⟨g, i, none⟩ u g' (by show g' ≠ g; omega)]; exact e2, e3, e4, e5, e6⟩
theorem own_ints {w : World} {B' n : Nat} {e : TypeId} {v : Value} {l : List Int} (h : w.ownsRow B' e 1 v n (numV .i64 l)) : n = l.length ∧ ∃ A c, v = .slice A l.length c ∧ Reads w w.heap.size 1 A l.length (numV .i64 l) ∧ ∀ ad, A = some ad → B' ≤ ad.block := by
  obtain ⟨h1, h2⟩ := id h
  have hn : n = l.length := by rw [numV_len] at h1; omega
  subst hn
  refine ⟨rfl, ?_⟩
  rcases h2 with ⟨rfl, e0⟩ | ⟨g, cap, cur, rfl, e1, e2, e3, e4, e5⟩
  · have hl : l = [] := List.eq_nil_of_length_eq_zero e0
    subst hl
    exact ⟨none, 0, rfl, Reads.none_, fun _ h => by cases h⟩
  · exact ⟨_, cap, rfl, Reads.of_own (c := cap) h, fun ad h => by injection h with h; rw [← h]; exact e1⟩
theorem own_reads {w : World} {B' n c : Nat} {A : Option Addr} {e : TypeId} {l : List Int} (h : w.ownsRow B' e 1 (.slice A l.length c) n (numV .i64 l)) : Reads w w.heap.size 1 A l.length (numV .i64 l) ∧ ∀ ad, A = some ad → B' ≤ ad.block := by
  obtain ⟨-, A', c', e, h⟩ := own_ints h
  injection e with e1 _ _
  rw [e1]
  exact h
theorem numV_snoc (xs : List Int) (a : Int) : numV .i64 (xs ++ [a]) = numV .i64 xs ++ [.int .i64 a] := by simp [numV]
/-- what readSet hands back -/
structure SetR (e : Ending) (w : World) (B : Nat) (s : List UInt8) : Prop where
  ex : ∃ A c l ok, e = .returned (.tuple #[.agg #[.int .i64 5, .int .i64 0, .string ⟨#[]⟩, .slice A (List.length (α := Int) l) c], .bool ok]) ∧ Reads w w.heap.size 1 A l.length (numV .i64 l) ∧ (∀ ad, A = some ad → B ≤ ad.block) ∧ l.length ≤ 2000001 ∧
    (ok = true → readSetF s = some l) ∧ (ok = false → readSetF s = none)
theorem codesF_cons (p : List UInt8) (r : List (List UInt8)) (a : Nat) (ok : Bool) (h : wholeF (Lib.trimPrefix p [35]) = (a, ok)) : codesF (p :: r) = if ok then (codesF r).map ((a : Int) :: ·) else none := by
  rw [codesF, h]
theorem map_map_app (o : Option (List Int)) (xs : List Int) (a : Int) : (o.map (a :: ·)).map (xs ++ ·) = o.map ((xs ++ [a]) ++ ·) := by cases o <;> simp
set_option maxHeartbeats 4000000 in
set_option maxRecDepth 100000 in
theorem readSet_any (s : ByteArray) (w : World) (hs : s.size ≤ 2000000) (hm : Mx w) :
    Calls Tryz.prog 188 #[.string s] w fun e w' => SetR e w' w.heap.size s.data.toList ∧ Below w.heap.size w w' := by
  have HM := Lib.hid hm
  clear hm
  obtain ⟨i0, hi0, hz0, hz1, hz2⟩ := info_parts infoInt
  go_enter Tryz.func188, Tryz.ntmps188
  go_wp2_with fail
  obtain ⟨W, hW⟩ : ∃ W, W = ((w.alloc (.cells #[.int .i64 0, .int .i64 0, .string ⟨#[]⟩, .slice none 0 0] 24 (0, 0))).alloc (.cells #[.int .i64 5, .int .i64 0, .string ⟨#[]⟩, .slice none 0 0] 24 (0, 0))) := ⟨_, rfl⟩
  have hbw : Below w.heap.size w W := by rw [hW]; exact (((Below.refl _ w).alloc (Nat.le_refl _) _).alloc (by simp) _)
  have B0 : Blk W (w.heap.size) 24 #[.int .i64 0, .int .i64 0, .string ⟨#[]⟩, .slice none 0 0] := by
    rw [hW]
    have := Blk.new w 24 #[.int .i64 0, .int .i64 0, .string ⟨#[]⟩, .slice none 0 0]
    have := this.alloc (.cells #[.int .i64 5, .int .i64 0, .string ⟨#[]⟩, .slice none 0 0] 24 (0, 0))
    exact this
  have B1 : Blk W (w.heap.size + 1) 24 #[.int .i64 5, .int .i64 0, .string ⟨#[]⟩, .slice none 0 0] := by
    rw [hW]
    have := Blk.new (w.alloc (.cells #[.int .i64 0, .int .i64 0, .string ⟨#[]⟩, .slice none 0 0] 24 (0, 0))) 24 #[.int .i64 5, .int .i64 0, .string ⟨#[]⟩, .slice none 0 0]
    rwa [World.size_alloc] at this
  have hsz : W.heap.size = w.heap.size + 2 := by rw [hW]; simp
  rw [← hW]
  clear hW hsz
  refine (trimPre s ⟨#[123]⟩ W).mono ?_
  rintro e w1 ⟨⟨t1, rfl, ht1⟩, rfl⟩
  have hl1 : t1.size ≤ s.size := by rw [dsize ht1]; exact Lib.trimPrefix_le _ _
  have HT1 := Lib.hid ht1
  clear ht1
  go_wp2_with fail
  refine (trimSuf t1 ⟨#[125]⟩ W (by omega)).mono ?_
  rintro e w1 ⟨⟨t, rfl, ht⟩, rfl⟩
  have hl2 : t.size ≤ t1.size := by rw [dsize ht]; exact Lib.trimSuffix_le _ _
  rw [HT1.out] at ht
  have HT := Lib.hid (show t.data.toList = innerF s.data.toList from ht)
  clear ht HT1
  have rc0 : W.cell? ⟨w.heap.size, 0, none⟩ = some (.int .i64 0) := B0.cell 0
  have rz0 : W.frozen? ⟨w.heap.size, 0, none⟩ = false := B0.frozen 0
  have rc1 : W.cell? ⟨w.heap.size, 1, none⟩ = some (.int .i64 0) := B0.cell 1
  have rz1 : W.frozen? ⟨w.heap.size, 1, none⟩ = false := B0.frozen 1
  have rc2 : W.cell? ⟨w.heap.size, 2, none⟩ = some (.string ⟨#[]⟩) := B0.cell 2
  have rz2 : W.frozen? ⟨w.heap.size, 2, none⟩ = false := B0.frozen 2
  have rc3 : W.cell? ⟨w.heap.size, 3, none⟩ = some (.slice none 0 0) := B0.cell 3
  have rz3 : W.frozen? ⟨w.heap.size, 3, none⟩ = false := B0.frozen 3
  have vc0 : W.cell? ⟨w.heap.size + 1, 0, none⟩ = some (.int .i64 5) := B1.cell 0
  have vc1 : W.cell? ⟨w.heap.size + 1, 1, none⟩ = some (.int .i64 0) := B1.cell 1
  have vc2 : W.cell? ⟨w.heap.size + 1, 2, none⟩ = some (.string ⟨#[]⟩) := B1.cell 2
  have vc3 : W.cell? ⟨w.heap.size + 1, 3, none⟩ = some (.slice none 0 0) := B1.cell 3
  by_cases h0 : t = ⟨#[]⟩
  · have HE := Lib.hid (show readSetF s.data.toList = some [] by unfold readSetF; rw [← HT.out, h0]; rfl)
    subst h0
    go_wp2
    obtain ⟨W9, hW9⟩ : ∃ W9, W9 = (((W.setCell ⟨w.heap.size, 0, none⟩ (.int .i64 5)).setCell ⟨w.heap.size, 1, none⟩ (.int .i64 0)).setCell ⟨w.heap.size, 2, none⟩ (.string ⟨#[]⟩)).setCell ⟨w.heap.size, 3, none⟩ (.slice none 0 0) := ⟨_, rfl⟩
    have B9 : Blk W9 (w.heap.size) 24 #[.int .i64 5, .int .i64 0, .string ⟨#[]⟩, .slice none 0 0] := hW9 ▸ ((((B0.set_ 0 _).set_ 1 _).set_ 2 _).set_ 3 _)
    have hbw9 : Below w.heap.size w W9 := hW9 ▸ ((((hbw.setCell (p := ⟨w.heap.size, 0, none⟩) (Nat.le_refl _) _).setCell (p := ⟨w.heap.size, 1, none⟩) (Nat.le_refl _) _).setCell (p := ⟨w.heap.size, 2, none⟩) (Nat.le_refl _) _).setCell (p := ⟨w.heap.size, 3, none⟩) (Nat.le_refl _) _)
    rw [← hW9]
    clear hW9
    have qc0 : W9.cell? ⟨w.heap.size, 0, none⟩ = some (.int .i64 5) := B9.cell 0
    have qc1 : W9.cell? ⟨w.heap.size, 1, none⟩ = some (.int .i64 0) := B9.cell 1
    have qc2 : W9.cell? ⟨w.heap.size, 2, none⟩ = some (.string ⟨#[]⟩) := B9.cell 2
    have qc3 : W9.cell? ⟨w.heap.size, 3, none⟩ = some (.slice none 0 0) := B9.cell 3
    refine bodyPost_ret (v := .tuple #[.agg #[.int .i64 5, .int .i64 0, .string ⟨#[]⟩, .slice none 0 0], .bool true]) (by simp [results, Tryz.results188, go_sem, qc0, qc1, qc2, qc3]) rfl ⟨⟨⟨none, 0, [], true, rfl, Reads.none_, (fun _ h => by cases h), by simp, fun _ => HE.out, fun h => by cases h⟩⟩, hbw9⟩
  have hne : t.data.toList ≠ [] := fun e => h0 (ba_of e)
  have se : t.toList.isEmpty = false := by rw [ByteArray.toList_eq]; simpa using hne
  have HE := Lib.hid (show readSetF s.data.toList = codesF (Lib.split t.data.toList [44]) by unfold readSetF; rw [← HT.out, if_neg hne])
  clear hne h0 HT rc0 rz0 rc1 rz1 rc2 rz2 rc3 rz3 vc0 vc1 vc2 vc3
  go_wp2_with fail
  refine (split_any t 44 W (by omega) (HM.out.below hbw)).mono ?_
  rintro e w1 ⟨ps, rfl, hw1, hps, hpl⟩
  have hb1 : Below W.heap.size W w1 := hw1 ▸ (Below.refl _ W).alloc (Nat.le_refl _) _
  have hsz1 : w1.heap.size = W.heap.size + 1 := by rw [hw1]; simp
  have B2 : Blk w1 W.heap.size 9 (ps.map Value.string).toArray := hw1 ▸ Blk.new W _ _
  rw [← hps] at HE
  have hWs := B1.lt
  have B0 := B0.below hb1 B0.lt
  have B1 := B1.below hb1 B1.lt
  have hbw := hbw.trans (hb1.mono hbw.size)
  have hpm : ps.length ≤ 2000001 := by omega
  have hlt1 : W.heap.size < w1.heap.size := by omega
  have HB0 := Lib.hid B0
  have HB1 := Lib.hid B1
  have HB2 := Lib.hid B2
  have hg0 : w.heap.size < w1.heap.size := B0.lt
  have hg1 : w.heap.size + 1 < w1.heap.size := B1.lt
  have hgW : w.heap.size + 1 < W.heap.size := hWs
  clear hps hw1 hb1 hpl hsz1 B0 B1 B2 hWs
  go_wp2
  go_loopw [19] (fun i wr => ∃ (k : Nat) (v : Value) (xs : List Int), k ≤ ps.length ∧ i = .int .i64 k ∧ Hid (Blk wr w.heap.size 24 #[.int .i64 0, .int .i64 0, .string ⟨#[]⟩, .slice none 0 0]) ∧ Hid (Blk wr (w.heap.size + 1) 24 #[.int .i64 5, .int .i64 0, .string ⟨#[]⟩, v]) ∧ Hid (Blk wr W.heap.size 9 (ps.map Value.string).toArray) ∧
      Hid (wr.ownsRow w1.heap.size 3 1 v k (numV .i64 xs)) ∧ Hid (codesF (ps.map (·.data.toList)) = (codesF ((ps.map (·.data.toList)).drop k)).map (xs ++ ·)) ∧ Below w.heap.size w wr ∧ w1.heap.size ≤ wr.heap.size) (fun i _ => ps.length - (intOf i).toNat)
  case atStart => exact ⟨0, _, [], Nat.zero_le _, rfl, HB0, HB1, HB2, Lib.hid (World.ownsRow_nil _ _ _ _), Lib.hid (by simp), hbw, Nat.le_refl _⟩
  case round =>
    obtain ⟨k, v, xs, hk, rfl, B0, B1, B2, HO, HC, hbr, hsr⟩ := hrel
    clear HB0 HB1 HB2
    obtain ⟨hkx, A, c, rfl, -⟩ := own_ints HO.out
    have HKX := Lib.hid hkx
    clear hkx
    by_cases hlt : k < ps.length
    · obtain ⟨p, hp⟩ : ∃ p, ps[k] = p := ⟨_, rfl⟩
      have pc : wr.cell? ⟨W.heap.size, k, none⟩ = some (.string p) := by rw [B2.out.cell k]; simp [hlt, hp]
      have HD := Lib.hid (show (ps.map (·.data.toList)).drop k = p.data.toList :: (ps.map (·.data.toList)).drop (k + 1) by
        rw [List.drop_eq_getElem_cons (by simpa using hlt), List.getElem_map, hp])
      clear hp
      go_wp2_with fail
      refine (trimPre p ⟨#[35]⟩ wr).mono ?_
      rintro e w2 ⟨⟨q, rfl, hq⟩, rfl⟩
      obtain ⟨a, ok, hwf, hwv, ha⟩ := wholeV_form q.data.toList
      have HWV := Lib.hid hwv
      have HCC := Lib.hid (codesF_cons p.data.toList ((ps.map (·.data.toList)).drop (k + 1)) a ok (by rw [← hwf, hq]))
      clear hq hwf hwv pc
      go_wp2_with fail
      refine (whole_any q wr).mono ?_
      rw [HWV.out]
      rintro e w2 ⟨rfl, rfl⟩
      clear HWV
      cases ok
      · have HF := Lib.hid (show readSetF s.data.toList = none by
          rw [HE.out, HC.out, HD.out, HCC.out]; rfl)
        have hxl : xs.length ≤ 2000001 := by have := HKX.out; omega
        have B0 := B0.out
        have B1 := B1.out
        have rc0 : wr.cell? ⟨w.heap.size, 0, none⟩ = some (.int .i64 0) := B0.cell 0
        have rz0 : wr.frozen? ⟨w.heap.size, 0, none⟩ = false := B0.frozen 0
        have rc1 : wr.cell? ⟨w.heap.size, 1, none⟩ = some (.int .i64 0) := B0.cell 1
        have rz1 : wr.frozen? ⟨w.heap.size, 1, none⟩ = false := B0.frozen 1
        have rc2 : wr.cell? ⟨w.heap.size, 2, none⟩ = some (.string ⟨#[]⟩) := B0.cell 2
        have rz2 : wr.frozen? ⟨w.heap.size, 2, none⟩ = false := B0.frozen 2
        have rc3 : wr.cell? ⟨w.heap.size, 3, none⟩ = some (.slice none 0 0) := B0.cell 3
        have rz3 : wr.frozen? ⟨w.heap.size, 3, none⟩ = false := B0.frozen 3
        have vc0 : wr.cell? ⟨w.heap.size + 1, 0, none⟩ = some (.int .i64 5) := B1.cell 0
        have vz0 : wr.frozen? ⟨w.heap.size + 1, 0, none⟩ = false := B1.frozen 0
        have vc1 : wr.cell? ⟨w.heap.size + 1, 1, none⟩ = some (.int .i64 0) := B1.cell 1
        have vz1 : wr.frozen? ⟨w.heap.size + 1, 1, none⟩ = false := B1.frozen 1
        have vc2 : wr.cell? ⟨w.heap.size + 1, 2, none⟩ = some (.string ⟨#[]⟩) := B1.cell 2
        have vz2 : wr.frozen? ⟨w.heap.size + 1, 2, none⟩ = false := B1.frozen 2
        have vc3 : wr.cell? ⟨w.heap.size + 1, 3, none⟩ = some (.slice A xs.length c) := B1.cell 3
        have vz3 : wr.frozen? ⟨w.heap.size + 1, 3, none⟩ = false := B1.frozen 3
        clear HC HD HCC
        go_wp2
        obtain ⟨W9, hW9⟩ : ∃ W9, W9 = (((wr.setCell ⟨w.heap.size, 0, none⟩ (.int .i64 5)).setCell ⟨w.heap.size, 1, none⟩ (.int .i64 0)).setCell ⟨w.heap.size, 2, none⟩ (.string ⟨#[]⟩)).setCell ⟨w.heap.size, 3, none⟩ (.slice A xs.length c) := ⟨_, rfl⟩
        have B9 : Blk W9 (w.heap.size) 24 #[.int .i64 5, .int .i64 0, .string ⟨#[]⟩, .slice A xs.length c] := hW9 ▸ ((((B0.set_ 0 _).set_ 1 _).set_ 2 _).set_ 3 _)
        have hbw9 : Below w.heap.size w W9 := hW9 ▸ ((((hbr.setCell (p := ⟨w.heap.size, 0, none⟩) (Nat.le_refl _) _).setCell (p := ⟨w.heap.size, 1, none⟩) (Nat.le_refl _) _).setCell (p := ⟨w.heap.size, 2, none⟩) (Nat.le_refl _) _).setCell (p := ⟨w.heap.size, 3, none⟩) (Nat.le_refl _) _)
        have HO9 := Lib.hid (hW9 ▸ own_set (own_set (own_set (own_set HO.out hg0 _) hg0 _) hg0 _) hg0 _ : W9.ownsRow w1.heap.size 3 1 (.slice A xs.length c) k (numV .i64 xs))
        rw [← hW9]
        clear hW9
        have qc0 : W9.cell? ⟨w.heap.size, 0, none⟩ = some (.int .i64 5) := B9.cell 0
        have qc1 : W9.cell? ⟨w.heap.size, 1, none⟩ = some (.int .i64 0) := B9.cell 1
        have qc2 : W9.cell? ⟨w.heap.size, 2, none⟩ = some (.string ⟨#[]⟩) := B9.cell 2
        have qc3 : W9.cell? ⟨w.heap.size, 3, none⟩ = some (.slice A xs.length c) := B9.cell 3
        refine bodyPost_ret (v := .tuple #[.agg #[.int .i64 5, .int .i64 0, .string ⟨#[]⟩, .slice A xs.length c], .bool false]) (by simp [results, Tryz.results188, go_sem, qc0, qc1, qc2, qc3]) rfl ⟨⟨⟨A, c, xs, false, rfl, (own_reads HO9.out).1, (fun ad h => Nat.le_of_lt (Nat.lt_of_lt_of_le hg0 ((own_reads HO9.out).2 ad h))), hxl, (fun h => by cases h), fun _ => HF.out⟩⟩, hbw9⟩
      · have B0 := B0.out
        have B1 := B1.out
        have B2 := B2.out
        have hrow : ∀ g, Value.ownBlock (.slice A xs.length c) = some g → w1.heap.size ≤ g := fun g hg => (HO.out.lt g hg).1
        have HROW := Lib.hid hrow
        have HC2 := Lib.hid (show codesF (ps.map (·.data.toList)) = (codesF ((ps.map (·.data.toList)).drop (k + 1))).map ((xs ++ [(a : Int)]) ++ ·) by
          rw [HC.out, HD.out, HCC.out, if_pos rfl, map_map_app])
        clear hrow HC HD HCC
        have vc0 : wr.cell? ⟨w.heap.size + 1, 0, none⟩ = some (.int .i64 5) := B1.cell 0
        have vz0 : wr.frozen? ⟨w.heap.size + 1, 0, none⟩ = false := B1.frozen 0
        have vc1 : wr.cell? ⟨w.heap.size + 1, 1, none⟩ = some (.int .i64 0) := B1.cell 1
        have vz1 : wr.frozen? ⟨w.heap.size + 1, 1, none⟩ = false := B1.frozen 1
        have vc2 : wr.cell? ⟨w.heap.size + 1, 2, none⟩ = some (.string ⟨#[]⟩) := B1.cell 2
        have vz2 : wr.frozen? ⟨w.heap.size + 1, 2, none⟩ = false := B1.frozen 2
        have vc3 : wr.cell? ⟨w.heap.size + 1, 3, none⟩ = some (.slice A xs.length c) := B1.cell 3
        have vz3 : wr.frozen? ⟨w.heap.size + 1, 3, none⟩ = false := B1.frozen 3
        go_wp2_with (at_builtin; refine wpList_append_own _ rfl _ _ 22 rfl w1.heap.size 3 i0 (.int .i64 0) 1 8 Tryz.underlying22 hi0 hz0 hz1 hz2 rfl (by decide) _ _ _ rfl (HO.out.alloc _) ⟨wr.heap.size, 0, none⟩ 1 1 [.int .i64 (a : Nat)] rfl rfl ?c1 ?c2 ?c3 ?c4 ?c5 ?_)
        case c1 => intro j u hj; cases j <;> simp_all [go_sem]
        case c2 => intro u hu; simp only [List.mem_singleton] at hu; subst hu; rfl
        case c3 => unfold maxLen; omega
        case c4 => omega
        case c5 => simp; omega
        intro v2 w3 hown3 hg3 _
        have hs3 : wr.heap.size + 1 ≤ w3.heap.size := by have := hg3.size; simpa using this
        have B0' : Blk w3 w.heap.size 24 #[.int .i64 0, .int .i64 0, .string ⟨#[]⟩, .slice none 0 0] := (B0.alloc _).grown hg3 (fun e => by have := HROW.out _ e.symm; omega)
        have B1' : Blk w3 (w.heap.size + 1) 24 #[.int .i64 5, .int .i64 0, .string ⟨#[]⟩, .slice A xs.length c] := (B1.alloc _).grown hg3 (fun e => by have := HROW.out _ e.symm; omega)
        have B2' : Blk w3 W.heap.size 9 (ps.map Value.string).toArray := (B2.alloc _).grown hg3 (fun e => by have := HROW.out _ e.symm; omega)
        have hb3 : Below w.heap.size w w3 := (hbr.alloc (by omega) _).grown hg3 (by simp; omega) (fun g hg => by have := HROW.out g hg; omega)
        have HO3 := Lib.hid (show w3.ownsRow w1.heap.size 3 1 v2 (k + 1) (numV .i64 (xs ++ [(a : Int)])) by rw [numV_snoc]; exact hown3)
        obtain ⟨ao, n', cap, rfl⟩ : ∃ ao n' cap, v2 = .slice ao n' cap := by
          rcases hown3.2 with ⟨hv, _⟩ | ⟨g, cap, cur, hv, _⟩
          · exact ⟨_, _, _, hv⟩
          · exact ⟨_, _, _, hv⟩
        clear hown3 hg3 vc0 vz0 vc1 vz1 vc2 vz2 vc3 vz3
        have vc3 : w3.cell? ⟨w.heap.size + 1, 3, none⟩ = some (.slice A xs.length c) := B1'.cell 3
        have vz3 : w3.frozen? ⟨w.heap.size + 1, 3, none⟩ = false := B1'.frozen 3
        go_wp2
        go_roundw
        case rel => exact ⟨k + 1, _, xs ++ [(a : Int)], by omega, by go_num, Lib.hid (B0'.far (p := ⟨w.heap.size + 1, 3, none⟩) (by show w.heap.size ≠ w.heap.size + 1; omega) _), Lib.hid (B1'.set_ 3 _), Lib.hid (B2'.far (p := ⟨w.heap.size + 1, 3, none⟩) (by show W.heap.size ≠ w.heap.size + 1; omega) _), Lib.hid (own_set HO3.out hg1 _), HC2, hb3.setCell (p := ⟨w.heap.size + 1, 3, none⟩) (by show w.heap.size ≤ w.heap.size + 1; omega) _, by simp [World.setCell]; omega⟩
        case measure => simp [intOf]; omega
    · have HF := Lib.hid (show readSetF s.data.toList = some xs by
        rw [HE.out, HC.out, List.drop_eq_nil_of_le (by simp; omega)]; simp [codesF])
      have hxl : xs.length ≤ 2000001 := by have := HKX.out; omega
      have B0 := B0.out
      have B1 := B1.out
      have rc0 : wr.cell? ⟨w.heap.size, 0, none⟩ = some (.int .i64 0) := B0.cell 0
      have rz0 : wr.frozen? ⟨w.heap.size, 0, none⟩ = false := B0.frozen 0
      have rc1 : wr.cell? ⟨w.heap.size, 1, none⟩ = some (.int .i64 0) := B0.cell 1
      have rz1 : wr.frozen? ⟨w.heap.size, 1, none⟩ = false := B0.frozen 1
      have rc2 : wr.cell? ⟨w.heap.size, 2, none⟩ = some (.string ⟨#[]⟩) := B0.cell 2
      have rz2 : wr.frozen? ⟨w.heap.size, 2, none⟩ = false := B0.frozen 2
      have rc3 : wr.cell? ⟨w.heap.size, 3, none⟩ = some (.slice none 0 0) := B0.cell 3
      have rz3 : wr.frozen? ⟨w.heap.size, 3, none⟩ = false := B0.frozen 3
      have vc0 : wr.cell? ⟨w.heap.size + 1, 0, none⟩ = some (.int .i64 5) := B1.cell 0
      have vz0 : wr.frozen? ⟨w.heap.size + 1, 0, none⟩ = false := B1.frozen 0
      have vc1 : wr.cell? ⟨w.heap.size + 1, 1, none⟩ = some (.int .i64 0) := B1.cell 1
      have vz1 : wr.frozen? ⟨w.heap.size + 1, 1, none⟩ = false := B1.frozen 1
      have vc2 : wr.cell? ⟨w.heap.size + 1, 2, none⟩ = some (.string ⟨#[]⟩) := B1.cell 2
      have vz2 : wr.frozen? ⟨w.heap.size + 1, 2, none⟩ = false := B1.frozen 2
      have vc3 : wr.cell? ⟨w.heap.size + 1, 3, none⟩ = some (.slice A xs.length c) := B1.cell 3
      have vz3 : wr.frozen? ⟨w.heap.size + 1, 3, none⟩ = false := B1.frozen 3
      clear HC
      go_wp2
      obtain ⟨W9, hW9⟩ : ∃ W9, W9 = (((wr.setCell ⟨w.heap.size, 0, none⟩ (.int .i64 5)).setCell ⟨w.heap.size, 1, none⟩ (.int .i64 0)).setCell ⟨w.heap.size, 2, none⟩ (.string ⟨#[]⟩)).setCell ⟨w.heap.size, 3, none⟩ (.slice A xs.length c) := ⟨_, rfl⟩
      have B9 : Blk W9 (w.heap.size) 24 #[.int .i64 5, .int .i64 0, .string ⟨#[]⟩, .slice A xs.length c] := hW9 ▸ ((((B0.set_ 0 _).set_ 1 _).set_ 2 _).set_ 3 _)
      have hbw9 : Below w.heap.size w W9 := hW9 ▸ ((((hbr.setCell (p := ⟨w.heap.size, 0, none⟩) (Nat.le_refl _) _).setCell (p := ⟨w.heap.size, 1, none⟩) (Nat.le_refl _) _).setCell (p := ⟨w.heap.size, 2, none⟩) (Nat.le_refl _) _).setCell (p := ⟨w.heap.size, 3, none⟩) (Nat.le_refl _) _)
      have HO9 := Lib.hid (hW9 ▸ own_set (own_set (own_set (own_set HO.out hg0 _) hg0 _) hg0 _) hg0 _ : W9.ownsRow w1.heap.size 3 1 (.slice A xs.length c) k (numV .i64 xs))
      rw [← hW9]
      clear hW9
      have qc0 : W9.cell? ⟨w.heap.size, 0, none⟩ = some (.int .i64 5) := B9.cell 0
      have qc1 : W9.cell? ⟨w.heap.size, 1, none⟩ = some (.int .i64 0) := B9.cell 1
      have qc2 : W9.cell? ⟨w.heap.size, 2, none⟩ = some (.string ⟨#[]⟩) := B9.cell 2
      have qc3 : W9.cell? ⟨w.heap.size, 3, none⟩ = some (.slice A xs.length c) := B9.cell 3
      refine bodyPost_ret (v := .tuple #[.agg #[.int .i64 5, .int .i64 0, .string ⟨#[]⟩, .slice A xs.length c], .bool true]) (by simp [results, Tryz.results188, go_sem, qc0, qc1, qc2, qc3]) rfl ⟨⟨⟨A, c, xs, true, rfl, (own_reads HO9.out).1, (fun ad h => Nat.le_of_lt (Nat.lt_of_lt_of_le hg0 ((own_reads HO9.out).2 ad h))), hxl, fun _ => HF.out, fun h => by cases h⟩⟩, hbw9⟩
end Go.Proofs.YtobanldeicclmaaGreatDoor
