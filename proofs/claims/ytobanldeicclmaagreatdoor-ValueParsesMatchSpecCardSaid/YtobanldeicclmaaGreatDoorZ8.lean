/- Lemmas for the claim: walks and plain laws. -/
import Derived.Test.YtobanldeicclmaaGreatDoorZ7
import Derived.Test.YtobanldeicclmaaGreatDoorZ6
import Derived.Test.YtobanldeicclmaaGreatDoorZ1
import Derived.Outline
set_option maxHeartbeats 4000000
set_option maxRecDepth 100000
namespace Go.Proofs.YtobanldeicclmaaGreatDoor
open Go.RowKit Vtx
theorem pK (c : UInt8) (w : World) :
  Calls Tryz.prog 57 #[.int .u8 (c.toNat : Nat)] w fun e w' => e = .returned (.bool (bI c)) ∧ w = w' := by
 go_enter Tryz.func57, Tryz.ntmps57
 go_wp2
 all_goals (go_ret; exact ⟨aj (by unfold bI; rw [Bool.eq_iff_iff]; simp; try omega), rfl⟩)
theorem Yi (c : UInt8) (w : World) : Calls Tryz.prog 87 #[.int .u8 (c.toNat : Nat), .int .i64 1] w fun e w' => e = .returned (.bool (bK c)) ∧ w = w' := by
 go_enter Tryz.func87, Tryz.ntmps87
 go_wp2_with (go_at_call 35; refine (oN c w).mono ?_; rintro e w1 ⟨rfl, rfl⟩)
 go_ret
 exact ⟨by rfl, rfl⟩
theorem Yj (c : UInt8) (w : World) : Calls Tryz.prog 87 #[.int .u8 (c.toNat : Nat), .int .i64 4] w fun e w' => e = .returned (.bool (bI c)) ∧ w = w' := by
 go_enter Tryz.func87, Tryz.ntmps87
 go_wp2_with (go_at_call 57; refine (pK c w).mono ?_; rintro e w1 ⟨rfl, rfl⟩)
 go_ret
 exact ⟨by rfl, rfl⟩
theorem Yk (c : UInt8) (w : World) : Calls Tryz.prog 87 #[.int .u8 (c.toNat : Nat), .int .i64 2] w fun e w' => e = .returned (.bool (iH c)) ∧ w = w' := by
 obtain ⟨b, hb⟩ := ae (bI c)
 have HP := qh (show iH c = (b || decide (c.toNat = 46)) by unfold iH; rw [hb, show decide (c = 46) = decide (c.toNat = 46) from decide_eq_decide.2 (toNat_eq c 46 (by decide))])
 have H := qh (show ∀ w', Calls Tryz.prog 57 #[.int .u8 (c.toNat : Nat)] w' fun e w'' => e = .returned (.bool b) ∧ w' = w'' from fun w' => by
  have h := pK c w'
  rwa [hb] at h)
 clear hb
 cases b
 ·
  go_enter Tryz.func87, Tryz.ntmps87
  go_wp2_with (go_at_call 57; refine (H.out _).mono ?_; rintro e w1 ⟨rfl, rfl⟩)
  all_goals (go_ret; exact ⟨aj (by rw [HP.out]; rw [Bool.eq_iff_iff]; simp; try omega), rfl⟩)
 ·
  go_enter Tryz.func87, Tryz.ntmps87
  go_wp2_with (go_at_call 57; refine (H.out _).mono ?_; rintro e w1 ⟨rfl, rfl⟩)
  all_goals (go_ret; exact ⟨aj (by rw [HP.out]; rfl), rfl⟩)
theorem Yl (c : UInt8) (w : World) : Calls Tryz.prog 87 #[.int .u8 (c.toNat : Nat), .int .i64 3] w fun e w' => e = .returned (.bool (jY c)) ∧ w = w' := by
 obtain ⟨b, hb⟩ := ae (bI c)
 have HP := qh (show jY c = (b || decide (c.toNat = 45)) by unfold jY; rw [hb, show decide (c = 45) = decide (c.toNat = 45) from decide_eq_decide.2 (toNat_eq c 45 (by decide))])
 have H := qh (show ∀ w', Calls Tryz.prog 57 #[.int .u8 (c.toNat : Nat)] w' fun e w'' => e = .returned (.bool b) ∧ w' = w'' from fun w' => by
  have h := pK c w'
  rwa [hb] at h)
 clear hb
 cases b
 ·
  go_enter Tryz.func87, Tryz.ntmps87
  go_wp2_with (go_at_call 57; refine (H.out _).mono ?_; rintro e w1 ⟨rfl, rfl⟩)
  all_goals (go_ret; exact ⟨aj (by rw [HP.out]; rw [Bool.eq_iff_iff]; simp; try omega), rfl⟩)
 ·
  go_enter Tryz.func87, Tryz.ntmps87
  go_wp2_with (go_at_call 57; refine (H.out _).mono ?_; rintro e w1 ⟨rfl, rfl⟩)
  all_goals (go_ret; exact ⟨aj (by rw [HP.out]; rfl), rfl⟩)
theorem Z7 (s : ByteArray) (k : Nat) (w : World) (hk : k ≤ s.size) (hs : s.size ≤ 4000) :
  Calls Tryz.prog 56 #[.string s, .int .i64 (k : Nat), .int .i64 1] w fun e w' => e = .returned (.int .i64 ((k + aK bK (s.data.toList.drop k) : Nat) : Int)) ∧ w = w' := by
 obtain ⟨K, hK⟩ := ae (k + aK bK (s.data.toList.drop k))
 have HK := qh hK.symm
 rw [hK]
 clear hK
 go_enter Tryz.func56, Tryz.ntmps56
 go_wp2_with fail
 go_loop [1] (fun i => ∃ n : Nat, n ≤ s.size ∧ i = .int .i64 n ∧ Hid (K = n + aK bK (s.data.toList.drop n))) (fun i => s.size - (intOf i).toNat)
 case atStart => exact ⟨k, hk, rfl, HK⟩
 case round =>
  obtain ⟨n, hn, rfl, HR⟩ := hrel
  by_cases hlt : n < s.size
  ·
   obtain ⟨b, hb⟩ := ae (bK s[n])
   have HB := qh hb
   have fO := qh hlt
   have HW := qh (show Calls Tryz.prog 87 #[.int .u8 (s[n].toNat : Nat), .int .i64 1] w fun e w'' => e = .returned (.bool b) ∧ w = w'' from by
    exact (Yi s[n] w).mono fun e w'' ⟨he, hw⟩ => ⟨he.trans (congrArg (fun x => Ending.returned (.bool x)) hb), hw⟩)
   clear hb
   cases b
   ·
    have HG := qh (jw fO.out HB.out HR.out)
    go_wp2_with (go_at_call 87; refine HW.out.mono ?_; rintro e w1 ⟨rfl, rfl⟩)
    go_ret
    exact ⟨by rw [HG.out]; try rfl, rfl⟩
   ·
    have HG := qh (iY fO.out HB.out HR.out)
    go_wp2_with (go_at_call 87; refine HW.out.mono ?_; rintro e w1 ⟨rfl, rfl⟩)
    go_round
    case rel => exact ⟨n + 1, fO.out, by go_num, HG⟩
    case measure =>
     have := fO.out
     simp [intOf]
     omega
  ·
   have HG := qh (kK hlt HR.out)
   go_wp2_with fail
   go_ret
   exact ⟨by rw [HG.out]; try rfl, rfl⟩
theorem Xy (s : ByteArray) (k : Nat) (w : World) (hk : k ≤ s.size) (hs : s.size ≤ 4000) :
  Calls Tryz.prog 56 #[.string s, .int .i64 (k : Nat), .int .i64 2] w fun e w' => e = .returned (.int .i64 ((k + aK iH (s.data.toList.drop k) : Nat) : Int)) ∧ w = w' := by
 obtain ⟨K, hK⟩ := ae (k + aK iH (s.data.toList.drop k))
 have HK := qh hK.symm
 rw [hK]
 clear hK
 go_enter Tryz.func56, Tryz.ntmps56
 go_wp2_with fail
 go_loop [1] (fun i => ∃ n : Nat, n ≤ s.size ∧ i = .int .i64 n ∧ Hid (K = n + aK iH (s.data.toList.drop n))) (fun i => s.size - (intOf i).toNat)
 case atStart => exact ⟨k, hk, rfl, HK⟩
 case round =>
  obtain ⟨n, hn, rfl, HR⟩ := hrel
  by_cases hlt : n < s.size
  ·
   obtain ⟨b, hb⟩ := ae (iH s[n])
   have HB := qh hb
   have fO := qh hlt
   have HW := qh (show Calls Tryz.prog 87 #[.int .u8 (s[n].toNat : Nat), .int .i64 2] w fun e w'' => e = .returned (.bool b) ∧ w = w'' from by
    exact (Yk s[n] w).mono fun e w'' ⟨he, hw⟩ => ⟨he.trans (congrArg (fun x => Ending.returned (.bool x)) hb), hw⟩)
   clear hb
   cases b
   ·
    have HG := qh (jw fO.out HB.out HR.out)
    go_wp2_with (go_at_call 87; refine HW.out.mono ?_; rintro e w1 ⟨rfl, rfl⟩)
    go_ret
    exact ⟨by rw [HG.out]; try rfl, rfl⟩
   ·
    have HG := qh (iY fO.out HB.out HR.out)
    go_wp2_with (go_at_call 87; refine HW.out.mono ?_; rintro e w1 ⟨rfl, rfl⟩)
    go_round
    case rel => exact ⟨n + 1, fO.out, by go_num, HG⟩
    case measure =>
     have := fO.out
     simp [intOf]
     omega
  ·
   have HG := qh (kK hlt HR.out)
   go_wp2_with fail
   go_ret
   exact ⟨by rw [HG.out]; try rfl, rfl⟩
theorem Xz (s : ByteArray) (k : Nat) (w : World) (hk : k ≤ s.size) (hs : s.size ≤ 4000) :
  Calls Tryz.prog 56 #[.string s, .int .i64 (k : Nat), .int .i64 3] w fun e w' => e = .returned (.int .i64 ((k + aK jY (s.data.toList.drop k) : Nat) : Int)) ∧ w = w' := by
 obtain ⟨K, hK⟩ := ae (k + aK jY (s.data.toList.drop k))
 have HK := qh hK.symm
 rw [hK]
 clear hK
 go_enter Tryz.func56, Tryz.ntmps56
 go_wp2_with fail
 go_loop [1] (fun i => ∃ n : Nat, n ≤ s.size ∧ i = .int .i64 n ∧ Hid (K = n + aK jY (s.data.toList.drop n))) (fun i => s.size - (intOf i).toNat)
 case atStart => exact ⟨k, hk, rfl, HK⟩
 case round =>
  obtain ⟨n, hn, rfl, HR⟩ := hrel
  by_cases hlt : n < s.size
  ·
   obtain ⟨b, hb⟩ := ae (jY s[n])
   have HB := qh hb
   have fO := qh hlt
   have HW := qh (show Calls Tryz.prog 87 #[.int .u8 (s[n].toNat : Nat), .int .i64 3] w fun e w'' => e = .returned (.bool b) ∧ w = w'' from by
    exact (Yl s[n] w).mono fun e w'' ⟨he, hw⟩ => ⟨he.trans (congrArg (fun x => Ending.returned (.bool x)) hb), hw⟩)
   clear hb
   cases b
   ·
    have HG := qh (jw fO.out HB.out HR.out)
    go_wp2_with (go_at_call 87; refine HW.out.mono ?_; rintro e w1 ⟨rfl, rfl⟩)
    go_ret
    exact ⟨by rw [HG.out]; try rfl, rfl⟩
   ·
    have HG := qh (iY fO.out HB.out HR.out)
    go_wp2_with (go_at_call 87; refine HW.out.mono ?_; rintro e w1 ⟨rfl, rfl⟩)
    go_round
    case rel => exact ⟨n + 1, fO.out, by go_num, HG⟩
    case measure =>
     have := fO.out
     simp [intOf]
     omega
  ·
   have HG := qh (kK hlt HR.out)
   go_wp2_with fail
   go_ret
   exact ⟨by rw [HG.out]; try rfl, rfl⟩
theorem XA (s : ByteArray) (k : Nat) (w : World) (hk : k ≤ s.size) (hs : s.size ≤ 4000) :
  Calls Tryz.prog 56 #[.string s, .int .i64 (k : Nat), .int .i64 4] w fun e w' => e = .returned (.int .i64 ((k + aK bI (s.data.toList.drop k) : Nat) : Int)) ∧ w = w' := by
 obtain ⟨K, hK⟩ := ae (k + aK bI (s.data.toList.drop k))
 have HK := qh hK.symm
 rw [hK]
 clear hK
 go_enter Tryz.func56, Tryz.ntmps56
 go_wp2_with fail
 go_loop [1] (fun i => ∃ n : Nat, n ≤ s.size ∧ i = .int .i64 n ∧ Hid (K = n + aK bI (s.data.toList.drop n))) (fun i => s.size - (intOf i).toNat)
 case atStart => exact ⟨k, hk, rfl, HK⟩
 case round =>
  obtain ⟨n, hn, rfl, HR⟩ := hrel
  by_cases hlt : n < s.size
  ·
   obtain ⟨b, hb⟩ := ae (bI s[n])
   have HB := qh hb
   have fO := qh hlt
   have HW := qh (show Calls Tryz.prog 87 #[.int .u8 (s[n].toNat : Nat), .int .i64 4] w fun e w'' => e = .returned (.bool b) ∧ w = w'' from by
    exact (Yj s[n] w).mono fun e w'' ⟨he, hw⟩ => ⟨he.trans (congrArg (fun x => Ending.returned (.bool x)) hb), hw⟩)
   clear hb
   cases b
   ·
    have HG := qh (jw fO.out HB.out HR.out)
    go_wp2_with (go_at_call 87; refine HW.out.mono ?_; rintro e w1 ⟨rfl, rfl⟩)
    go_ret
    exact ⟨by rw [HG.out]; try rfl, rfl⟩
   ·
    have HG := qh (iY fO.out HB.out HR.out)
    go_wp2_with (go_at_call 87; refine HW.out.mono ?_; rintro e w1 ⟨rfl, rfl⟩)
    go_round
    case rel => exact ⟨n + 1, fO.out, by go_num, HG⟩
    case measure =>
     have := fO.out
     simp [intOf]
     omega
  ·
   have HG := qh (kK hlt HR.out)
   go_wp2_with fail
   go_ret
   exact ⟨by rw [HG.out]; try rfl, rfl⟩
theorem Gq (s : ByteArray) (i : Nat) (w : World) (hi : i < s.size) (hs : s.size ≤ 4000) :
  Calls Tryz.prog 34 #[.string s, .int .i64 (i : Nat)] w fun e w' => e = .returned (.int .i64 ((i + aJ (s.data.toList.drop i) : Nat) : Int)) ∧ w = w' := by
 obtain ⟨K, hK⟩ := ae (i + aJ (s.data.toList.drop i))
 rw [hK]
 have hd := lG hi
 obtain ⟨r, hr⟩ := ae (s.data.toList.drop (i + 1))
 rw [hr] at hd
 rw [hd, aJ] at hK
 have hii : (0 : Int) ≤ (i : Int) := by omega
 have hii2 : (i : Int) < (s.size : Int) := by omega
 obtain ⟨b1, hb1⟩ := ae (dE s[i])
 obtain ⟨b2, hb2⟩ := ae (bI s[i])
 have HD := qh (show Calls Tryz.prog 57 #[.int .u8 (s[i].toNat : Nat)] w fun e w'' => e = .returned (.bool b2) ∧ w = w'' from by
  exact (pK s[i] w).mono fun e w'' ⟨he, hw⟩ => ⟨he.trans (congrArg (fun x => Ending.returned (.bool x)) hb2), hw⟩)
 rw [hb1, hb2] at hK
 cases b1
 rotate_left
 ·
  rw [if_pos rfl] at hK
  have hl : 97 ≤ s[i].toNat ∧ s[i].toNat ≤ 122 := by unfold dE at hb1; rw [Bool.and_eq_true, decide_eq_true_iff, decide_eq_true_iff] at hb1; exact hb1
  have l1 : (97 : Int) ≤ (s[i].toNat : Int) := by omega
  have l2 : (s[i].toNat : Int) ≤ 122 := by omega
  have HKK := qh (show i + aK bK (s.data.toList.drop i) = K by rw [hd, aK, IL hb1, if_pos rfl]; omega)
  clear hb1 hb2 hK hd hr hl
  go_enter Tryz.func34, Tryz.ntmps34
  go_wp2_with (first | (go_at_call 56; refine (Z7 s (i) _ (by omega) hs).mono ?_; rintro e w1 ⟨rfl, rfl⟩))
  go_ret
  exact ⟨by rw [← HKK.out]; try rfl, rfl⟩
 have hlo : s[i].toNat < 97 ∨ (97 ≤ s[i].toNat ∧ 122 < s[i].toNat) := by
  unfold dE at hb1
  by_cases h1 : 97 ≤ s[i].toNat
  ·
   by_cases h2 : s[i].toNat ≤ 122
   ·
    rw [decide_eq_true h1, decide_eq_true h2] at hb1; cases hb1
   ·
    exact .inr ⟨h1, by omega⟩
  ·
   exact .inl (by omega)
 rcases hlo with hlo | hlo
 ·
  have l1 : ¬ (97 : Int) ≤ (s[i].toNat : Int) := by omega
  clear hlo
  rw [if_neg (by decide)] at hK
  cases b2
  rotate_left
  ·
   rw [if_pos rfl] at hK
   have HKK := qh (show i + aK iH (s.data.toList.drop i) = K by rw [hd, aK, show iH s[i] = true by unfold iH; rw [hb2]; rfl, if_pos rfl]; omega)
   clear hb1 hb2 hK hd hr
   go_enter Tryz.func34, Tryz.ntmps34
   go_wp2_with (first | (go_at_call 57; refine HD.out.mono ?_; rintro e w1 ⟨rfl, rfl⟩) | (go_at_call 56; refine (Xy s (i) _ (by omega) hs).mono ?_; rintro e w1 ⟨rfl, rfl⟩))
   go_ret
   exact ⟨by rw [← HKK.out]; try rfl, rfl⟩
  rw [if_neg (by decide)] at hK
  by_cases h64 : s[i] = 64
  ·
   rw [if_pos h64] at hK
   have y64 : ((s[i].toNat : Int) == 64) = true := by simp; have := (toNat_eq s[i] 64 (by decide)).1 h64; omega
   have HKK := qh (show i + 1 + aK jY (s.data.toList.drop (i + 1)) = K by rw [hr]; omega)
   clear hb1 hb2 hK hd hr h64
   go_enter Tryz.func34, Tryz.ntmps34
   go_wp2_with (first | (go_at_call 57; refine HD.out.mono ?_; rintro e w1 ⟨rfl, rfl⟩) | (go_at_call 56; refine (Xz s (i + 1) _ (by omega) hs).mono ?_; rintro e w1 ⟨rfl, rfl⟩))
   go_ret
   exact ⟨by rw [← HKK.out]; try rfl, rfl⟩
  rw [if_neg h64] at hK
  by_cases h35 : s[i] = 35
  ·
   rw [if_pos h35] at hK
   have y35 : ((s[i].toNat : Int) == 35) = true := by simp; have := (toNat_eq s[i] 35 (by decide)).1 h35; omega
   have n64 : ((s[i].toNat : Int) == 64) = false := by simp; exact fun e => h64 ((toNat_eq s[i] 64 (by decide)).2 (by omega))
   have HKK := qh (show i + 1 + aK bI (s.data.toList.drop (i + 1)) = K by rw [hr]; omega)
   clear hb1 hb2 hK hd hr h64 h35
   go_enter Tryz.func34, Tryz.ntmps34
   go_wp2_with (first | (go_at_call 57; refine HD.out.mono ?_; rintro e w1 ⟨rfl, rfl⟩) | (go_at_call 56; refine (XA s (i + 1) _ (by omega) hs).mono ?_; rintro e w1 ⟨rfl, rfl⟩))
   go_ret
   exact ⟨by rw [← HKK.out]; try rfl, rfl⟩
  rw [if_neg h35] at hK
  by_cases jZ : s[i] = 39
  ·
   rw [if_pos jZ] at hK
   have y39 : ((s[i].toNat : Int) == 39) = true := by simp; have := (toNat_eq s[i] 39 (by decide)).1 jZ; omega
   have n64 : ((s[i].toNat : Int) == 64) = false := by simp; exact fun e => h64 ((toNat_eq s[i] 64 (by decide)).2 (by omega))
   have n35 : ((s[i].toNat : Int) == 35) = false := by simp; exact fun e => h35 ((toNat_eq s[i] 35 (by decide)).2 (by omega))
   have HKK := qh (show K = (i + 1) + bU (s.data.toList.drop (i + 1)) by rw [hr]; omega)
   clear hb1 hb2 hK hd hr h64 h35 jZ
   go_enter Tryz.func34, Tryz.ntmps34
   go_wp2_with (first | (go_at_call 57; refine HD.out.mono ?_; rintro e w1 ⟨rfl, rfl⟩))
   go_loop [6] (fun x => ∃ n : Nat, n ≤ s.size ∧ x = .int .i64 n ∧ Hid (K = n + bU (s.data.toList.drop n))) (fun x => s.size - (intOf x).toNat)
   case atStart => exact ⟨i + 1, hi, by go_num, HKK⟩
   case round =>
    obtain ⟨n, hn, rfl, HR⟩ := hrel
    by_cases hlt : n < s.size
    ·
     have fO := qh hlt
     by_cases jZ : (s[n]'hlt).toNat = 39
     ·
      have uG : (s[n]'hlt) = 39 := (toNat_eq (s[n]'hlt) 39 (by decide)).2 jZ
      by_cases hl2 : n + 1 < s.size
      ·
       have Z4 : ((n : Int) + 1) < (s.size : Int) := by omega
       have hne : (((n : Int) + 1) == (s.size : Int)) = false := by simp; omega
       by_cases h2 : (s[n + 1]'hl2).toNat = 39
       ·
        have HG := qh (Ba hl2 uG ((toNat_eq (s[n + 1]'hl2) 39 (by decide)).2 h2) HR.out)
        have HL2 := qh hl2
        have b1 : (((s[n]'hlt).toNat : Int) != 39) = false := by simp; omega
        have b2 : (((s[n + 1]'hl2).toNat : Int) != 39) = false := by simp; omega
        clear jZ uG h2
        go_wp2_with fail
        go_round
        case rel => exact ⟨n + 2, HL2.out, by go_num, HG⟩
        case measure =>
         have := HL2.out
         simp [intOf]
         omega
       ·
        have HG := qh (Bc hl2 uG (fun e => h2 ((toNat_eq (s[n + 1]'hl2) 39 (by decide)).1 e)) HR.out)
        have b1 : (((s[n]'hlt).toNat : Int) != 39) = false := by simp; omega
        have b2 : (((s[n + 1]'hl2).toNat : Int) != 39) = true := by simp; omega
        clear jZ uG h2
        go_wp2_with fail
        go_ret
        exact ⟨by rw [HG.out]; try rfl, rfl⟩
      ·
       have HG := qh (Be hlt hl2 HR.out)
       have b1 : (((s[n]'hlt).toNat : Int) != 39) = false := by simp; omega
       have hne : (((n : Int) + 1) == (s.size : Int)) = true := by simp; omega
       clear jZ uG
       go_wp2_with fail
       go_ret
       exact ⟨by rw [HG.out]; try rfl, rfl⟩
     ·
      have HG := qh (yE hlt (fun e => jZ ((toNat_eq (s[n]'hlt) 39 (by decide)).1 e)) HR.out)
      have b1 : (((s[n]'hlt).toNat : Int) != 39) = true := by simp; omega
      clear jZ
      go_wp2_with fail
      go_round
      case rel => exact ⟨n + 1, fO.out, by go_num, HG⟩
      case measure =>
       have := fO.out
       simp [intOf]
       omega
    ·
     have HG := qh (Bf hlt HR.out)
     have hke : n = s.size := by omega
     go_wp2_with fail
     go_ret
     exact ⟨by rw [HG.out, hke]; try rfl, rfl⟩
  rw [if_neg jZ] at hK
  by_cases fJ : s[i] = 123
  ·
   rw [if_pos fJ] at hK
   have Z5 : ((s[i].toNat : Int) == 123) = true := by simp; have := (toNat_eq s[i] 123 (by decide)).1 fJ; omega
   have n64 : ((s[i].toNat : Int) == 64) = false := by simp; exact fun e => h64 ((toNat_eq s[i] 64 (by decide)).2 (by omega))
   have n35 : ((s[i].toNat : Int) == 35) = false := by simp; exact fun e => h35 ((toNat_eq s[i] 35 (by decide)).2 (by omega))
   have n39 : ((s[i].toNat : Int) == 39) = false := by simp; exact fun e => jZ ((toNat_eq s[i] 39 (by decide)).2 (by omega))
   have IU := qh (show ∀ w', Calls Tryz.prog 58 #[.string (s.extract i s.size), .int .u8 125] w' fun e w'' => e = .returned (.int .i64 (Lib.indexByte (s.data.toList.drop i) 125)) ∧ w'' = w' from fun w' => by
    have h := Tryz.strings_IndexByte (s.extract i s.size) 125 w'
    rwa [jQ] at h)
   have hix : Lib.indexByte (s.data.toList.drop i) 125 = if (125 : UInt8) ∈ r then ((fZ r : Nat) : Int) else -1 := by
    rw [hd, qA, fJ]
    have hm : ((125 : UInt8) ∈ (123 : UInt8) :: r) ↔ (125 : UInt8) ∈ r := by simp
    by_cases h : (125 : UInt8) ∈ r
    ·
     rw [if_pos (hm.2 h), if_pos h, fZ, if_neg (by decide)]; omega
    ·
     rw [if_neg (fun e => h (hm.1 e)), if_neg h]
   have hrl : r.length + (i + 1) = s.size := by rw [← hr, List.length_drop, Array.length_toList]; show s.size - (i + 1) + (i + 1) = _; omega
   have hbl := uB r
   by_cases hm : (125 : UInt8) ∈ r
   ·
    rw [if_pos hm] at hix
    rw [hix] at IU
    obtain ⟨N, hN⟩ := ae (fZ r)
    rw [hN] at IU hK hbl
    have HKK := qh (show ((i : Nat) : Int) + (N : Nat) + 1 = (K : Nat) by omega)
    have hNs : N ≤ 4000 := by omega
    clear hb1 hb2 hK hd hr h64 h35 jZ fJ hm hix hN hbl hrl
    go_enter Tryz.func34, Tryz.ntmps34
    go_wp2_with (first | (go_at_call 57; refine HD.out.mono ?_; rintro e w1 ⟨rfl, rfl⟩) | (go_at_call 58; refine (IU.out _).mono ?_; rintro e w1 ⟨rfl, rfl⟩))
    go_ret
    exact ⟨ah HKK.out, rfl⟩
   ·
    rw [if_neg hm] at hix
    rw [hix] at IU
    have HKK := qh (show ((s.size : Nat) : Int) = (K : Nat) by rw [sF hm] at hK; omega)
    clear hb1 hb2 hK hd hr h64 h35 jZ fJ hm hix hbl hrl
    go_enter Tryz.func34, Tryz.ntmps34
    go_wp2_with (first | (go_at_call 57; refine HD.out.mono ?_; rintro e w1 ⟨rfl, rfl⟩) | (go_at_call 58; refine (IU.out _).mono ?_; rintro e w1 ⟨rfl, rfl⟩))
    go_ret
    exact ⟨ah HKK.out, rfl⟩
  rw [if_neg fJ] at hK
  have n64 : ((s[i].toNat : Int) == 64) = false := by simp; exact fun e => h64 ((toNat_eq s[i] 64 (by decide)).2 (by omega))
  have n35 : ((s[i].toNat : Int) == 35) = false := by simp; exact fun e => h35 ((toNat_eq s[i] 35 (by decide)).2 (by omega))
  have n39 : ((s[i].toNat : Int) == 39) = false := by simp; exact fun e => jZ ((toNat_eq s[i] 39 (by decide)).2 (by omega))
  have n123 : ((s[i].toNat : Int) == 123) = false := by simp; exact fun e => fJ ((toNat_eq s[i] 123 (by decide)).2 (by omega))
  rw [Bg] at hK
  obtain ⟨q1, hq1⟩ := ae (Lib.hasPrefix (s[i] :: r) [60, 62])
  have Fa := qh (show ∀ w', Calls Tryz.prog 59 #[.string (s.extract i s.size), .string ⟨#[60, 62]⟩] w' fun e w'' => e = .returned (.bool q1) ∧ w'' = w' from fun w' => by
   have h := Tryz.strings_HasPrefix (s.extract i s.size) ⟨#[60, 62]⟩ w'
   rw [jQ, hd] at h
   rwa [hq1] at h)
  obtain ⟨q2, hq2⟩ := ae (Lib.hasPrefix (s[i] :: r) [60, 61])
  have Fb := qh (show ∀ w', Calls Tryz.prog 59 #[.string (s.extract i s.size), .string ⟨#[60, 61]⟩] w' fun e w'' => e = .returned (.bool q2) ∧ w'' = w' from fun w' => by
   have h := Tryz.strings_HasPrefix (s.extract i s.size) ⟨#[60, 61]⟩ w'
   rw [jQ, hd] at h
   rwa [hq2] at h)
  obtain ⟨q3, hq3⟩ := ae (Lib.hasPrefix (s[i] :: r) [62, 61])
  have Fe := qh (show ∀ w', Calls Tryz.prog 59 #[.string (s.extract i s.size), .string ⟨#[62, 61]⟩] w' fun e w'' => e = .returned (.bool q3) ∧ w'' = w' from fun w' => by
   have h := Tryz.strings_HasPrefix (s.extract i s.size) ⟨#[62, 61]⟩ w'
   rw [jQ, hd] at h
   rwa [hq3] at h)
  rw [hq1, hq2, hq3] at hK
  clear hb1 hb2 hd hr h64 h35 jZ fJ hq1 hq2 hq3
  cases q1
  rotate_left
  ·
   have HKK := qh (show ((i : Nat) : Int) + 2 = (K : Nat) by have h := (show i + 2 = K by simpa using hK); omega)
   clear hK
   go_enter Tryz.func34, Tryz.ntmps34
   go_wp2_with (first | (go_at_call 57; refine HD.out.mono ?_; rintro e w1 ⟨rfl, rfl⟩) | (go_at_call 59; refine (Fa.out _).mono ?_; rintro e w1 ⟨rfl, rfl⟩) | (go_at_call 59; refine (Fb.out _).mono ?_; rintro e w1 ⟨rfl, rfl⟩) | (go_at_call 59; refine (Fe.out _).mono ?_; rintro e w1 ⟨rfl, rfl⟩))
   go_ret
   exact ⟨ah HKK.out, rfl⟩
  cases q2
  rotate_left
  ·
   have HKK := qh (show ((i : Nat) : Int) + 2 = (K : Nat) by have h := (show i + 2 = K by simpa using hK); omega)
   clear hK
   go_enter Tryz.func34, Tryz.ntmps34
   go_wp2_with (first | (go_at_call 57; refine HD.out.mono ?_; rintro e w1 ⟨rfl, rfl⟩) | (go_at_call 59; refine (Fa.out _).mono ?_; rintro e w1 ⟨rfl, rfl⟩) | (go_at_call 59; refine (Fb.out _).mono ?_; rintro e w1 ⟨rfl, rfl⟩) | (go_at_call 59; refine (Fe.out _).mono ?_; rintro e w1 ⟨rfl, rfl⟩))
   go_ret
   exact ⟨ah HKK.out, rfl⟩
  cases q3
  rotate_left
  ·
   have HKK := qh (show ((i : Nat) : Int) + 2 = (K : Nat) by have h := (show i + 2 = K by simpa using hK); omega)
   clear hK
   go_enter Tryz.func34, Tryz.ntmps34
   go_wp2_with (first | (go_at_call 57; refine HD.out.mono ?_; rintro e w1 ⟨rfl, rfl⟩) | (go_at_call 59; refine (Fa.out _).mono ?_; rintro e w1 ⟨rfl, rfl⟩) | (go_at_call 59; refine (Fb.out _).mono ?_; rintro e w1 ⟨rfl, rfl⟩) | (go_at_call 59; refine (Fe.out _).mono ?_; rintro e w1 ⟨rfl, rfl⟩))
   go_ret
   exact ⟨ah HKK.out, rfl⟩
  have HKK := qh (show ((i : Nat) : Int) + 1 = (K : Nat) by have h := (show i + 1 = K by simpa using hK); omega)
  clear hK
  go_enter Tryz.func34, Tryz.ntmps34
  go_wp2_with (first | (go_at_call 57; refine HD.out.mono ?_; rintro e w1 ⟨rfl, rfl⟩) | (go_at_call 59; refine (Fa.out _).mono ?_; rintro e w1 ⟨rfl, rfl⟩) | (go_at_call 59; refine (Fb.out _).mono ?_; rintro e w1 ⟨rfl, rfl⟩) | (go_at_call 59; refine (Fe.out _).mono ?_; rintro e w1 ⟨rfl, rfl⟩))
  go_ret
  exact ⟨ah HKK.out, rfl⟩
 ·
  have l1 : (97 : Int) ≤ (s[i].toNat : Int) := by omega
  have l2 : ¬ (s[i].toNat : Int) ≤ 122 := by omega
  clear hlo
  rw [if_neg (by decide)] at hK
  cases b2
  rotate_left
  ·
   rw [if_pos rfl] at hK
   have HKK := qh (show i + aK iH (s.data.toList.drop i) = K by rw [hd, aK, show iH s[i] = true by unfold iH; rw [hb2]; rfl, if_pos rfl]; omega)
   clear hb1 hb2 hK hd hr
   go_enter Tryz.func34, Tryz.ntmps34
   go_wp2_with (first | (go_at_call 57; refine HD.out.mono ?_; rintro e w1 ⟨rfl, rfl⟩) | (go_at_call 56; refine (Xy s (i) _ (by omega) hs).mono ?_; rintro e w1 ⟨rfl, rfl⟩))
   go_ret
   exact ⟨by rw [← HKK.out]; try rfl, rfl⟩
  rw [if_neg (by decide)] at hK
  by_cases h64 : s[i] = 64
  ·
   rw [if_pos h64] at hK
   have y64 : ((s[i].toNat : Int) == 64) = true := by simp; have := (toNat_eq s[i] 64 (by decide)).1 h64; omega
   have HKK := qh (show i + 1 + aK jY (s.data.toList.drop (i + 1)) = K by rw [hr]; omega)
   clear hb1 hb2 hK hd hr h64
   go_enter Tryz.func34, Tryz.ntmps34
   go_wp2_with (first | (go_at_call 57; refine HD.out.mono ?_; rintro e w1 ⟨rfl, rfl⟩) | (go_at_call 56; refine (Xz s (i + 1) _ (by omega) hs).mono ?_; rintro e w1 ⟨rfl, rfl⟩))
   go_ret
   exact ⟨by rw [← HKK.out]; try rfl, rfl⟩
  rw [if_neg h64] at hK
  by_cases h35 : s[i] = 35
  ·
   rw [if_pos h35] at hK
   have y35 : ((s[i].toNat : Int) == 35) = true := by simp; have := (toNat_eq s[i] 35 (by decide)).1 h35; omega
   have n64 : ((s[i].toNat : Int) == 64) = false := by simp; exact fun e => h64 ((toNat_eq s[i] 64 (by decide)).2 (by omega))
   have HKK := qh (show i + 1 + aK bI (s.data.toList.drop (i + 1)) = K by rw [hr]; omega)
   clear hb1 hb2 hK hd hr h64 h35
   go_enter Tryz.func34, Tryz.ntmps34
   go_wp2_with (first | (go_at_call 57; refine HD.out.mono ?_; rintro e w1 ⟨rfl, rfl⟩) | (go_at_call 56; refine (XA s (i + 1) _ (by omega) hs).mono ?_; rintro e w1 ⟨rfl, rfl⟩))
   go_ret
   exact ⟨by rw [← HKK.out]; try rfl, rfl⟩
  rw [if_neg h35] at hK
  by_cases jZ : s[i] = 39
  ·
   rw [if_pos jZ] at hK
   have y39 : ((s[i].toNat : Int) == 39) = true := by simp; have := (toNat_eq s[i] 39 (by decide)).1 jZ; omega
   have n64 : ((s[i].toNat : Int) == 64) = false := by simp; exact fun e => h64 ((toNat_eq s[i] 64 (by decide)).2 (by omega))
   have n35 : ((s[i].toNat : Int) == 35) = false := by simp; exact fun e => h35 ((toNat_eq s[i] 35 (by decide)).2 (by omega))
   have HKK := qh (show K = (i + 1) + bU (s.data.toList.drop (i + 1)) by rw [hr]; omega)
   clear hb1 hb2 hK hd hr h64 h35 jZ
   go_enter Tryz.func34, Tryz.ntmps34
   go_wp2_with (first | (go_at_call 57; refine HD.out.mono ?_; rintro e w1 ⟨rfl, rfl⟩))
   go_loop [6] (fun x => ∃ n : Nat, n ≤ s.size ∧ x = .int .i64 n ∧ Hid (K = n + bU (s.data.toList.drop n))) (fun x => s.size - (intOf x).toNat)
   case atStart => exact ⟨i + 1, hi, by go_num, HKK⟩
   case round =>
    obtain ⟨n, hn, rfl, HR⟩ := hrel
    by_cases hlt : n < s.size
    ·
     have fO := qh hlt
     by_cases jZ : (s[n]'hlt).toNat = 39
     ·
      have uG : (s[n]'hlt) = 39 := (toNat_eq (s[n]'hlt) 39 (by decide)).2 jZ
      by_cases hl2 : n + 1 < s.size
      ·
       have Z4 : ((n : Int) + 1) < (s.size : Int) := by omega
       have hne : (((n : Int) + 1) == (s.size : Int)) = false := by simp; omega
       by_cases h2 : (s[n + 1]'hl2).toNat = 39
       ·
        have HG := qh (Ba hl2 uG ((toNat_eq (s[n + 1]'hl2) 39 (by decide)).2 h2) HR.out)
        have HL2 := qh hl2
        have b1 : (((s[n]'hlt).toNat : Int) != 39) = false := by simp; omega
        have b2 : (((s[n + 1]'hl2).toNat : Int) != 39) = false := by simp; omega
        clear jZ uG h2
        go_wp2_with fail
        go_round
        case rel => exact ⟨n + 2, HL2.out, by go_num, HG⟩
        case measure =>
         have := HL2.out
         simp [intOf]
         omega
       ·
        have HG := qh (Bc hl2 uG (fun e => h2 ((toNat_eq (s[n + 1]'hl2) 39 (by decide)).1 e)) HR.out)
        have b1 : (((s[n]'hlt).toNat : Int) != 39) = false := by simp; omega
        have b2 : (((s[n + 1]'hl2).toNat : Int) != 39) = true := by simp; omega
        clear jZ uG h2
        go_wp2_with fail
        go_ret
        exact ⟨by rw [HG.out]; try rfl, rfl⟩
      ·
       have HG := qh (Be hlt hl2 HR.out)
       have b1 : (((s[n]'hlt).toNat : Int) != 39) = false := by simp; omega
       have hne : (((n : Int) + 1) == (s.size : Int)) = true := by simp; omega
       clear jZ uG
       go_wp2_with fail
       go_ret
       exact ⟨by rw [HG.out]; try rfl, rfl⟩
     ·
      have HG := qh (yE hlt (fun e => jZ ((toNat_eq (s[n]'hlt) 39 (by decide)).1 e)) HR.out)
      have b1 : (((s[n]'hlt).toNat : Int) != 39) = true := by simp; omega
      clear jZ
      go_wp2_with fail
      go_round
      case rel => exact ⟨n + 1, fO.out, by go_num, HG⟩
      case measure =>
       have := fO.out
       simp [intOf]
       omega
    ·
     have HG := qh (Bf hlt HR.out)
     have hke : n = s.size := by omega
     go_wp2_with fail
     go_ret
     exact ⟨by rw [HG.out, hke]; try rfl, rfl⟩
  rw [if_neg jZ] at hK
  by_cases fJ : s[i] = 123
  ·
   rw [if_pos fJ] at hK
   have Z5 : ((s[i].toNat : Int) == 123) = true := by simp; have := (toNat_eq s[i] 123 (by decide)).1 fJ; omega
   have n64 : ((s[i].toNat : Int) == 64) = false := by simp; exact fun e => h64 ((toNat_eq s[i] 64 (by decide)).2 (by omega))
   have n35 : ((s[i].toNat : Int) == 35) = false := by simp; exact fun e => h35 ((toNat_eq s[i] 35 (by decide)).2 (by omega))
   have n39 : ((s[i].toNat : Int) == 39) = false := by simp; exact fun e => jZ ((toNat_eq s[i] 39 (by decide)).2 (by omega))
   have IU := qh (show ∀ w', Calls Tryz.prog 58 #[.string (s.extract i s.size), .int .u8 125] w' fun e w'' => e = .returned (.int .i64 (Lib.indexByte (s.data.toList.drop i) 125)) ∧ w'' = w' from fun w' => by
    have h := Tryz.strings_IndexByte (s.extract i s.size) 125 w'
    rwa [jQ] at h)
   have hix : Lib.indexByte (s.data.toList.drop i) 125 = if (125 : UInt8) ∈ r then ((fZ r : Nat) : Int) else -1 := by
    rw [hd, qA, fJ]
    have hm : ((125 : UInt8) ∈ (123 : UInt8) :: r) ↔ (125 : UInt8) ∈ r := by simp
    by_cases h : (125 : UInt8) ∈ r
    ·
     rw [if_pos (hm.2 h), if_pos h, fZ, if_neg (by decide)]; omega
    ·
     rw [if_neg (fun e => h (hm.1 e)), if_neg h]
   have hrl : r.length + (i + 1) = s.size := by rw [← hr, List.length_drop, Array.length_toList]; show s.size - (i + 1) + (i + 1) = _; omega
   have hbl := uB r
   by_cases hm : (125 : UInt8) ∈ r
   ·
    rw [if_pos hm] at hix
    rw [hix] at IU
    obtain ⟨N, hN⟩ := ae (fZ r)
    rw [hN] at IU hK hbl
    have HKK := qh (show ((i : Nat) : Int) + (N : Nat) + 1 = (K : Nat) by omega)
    have hNs : N ≤ 4000 := by omega
    clear hb1 hb2 hK hd hr h64 h35 jZ fJ hm hix hN hbl hrl
    go_enter Tryz.func34, Tryz.ntmps34
    go_wp2_with (first | (go_at_call 57; refine HD.out.mono ?_; rintro e w1 ⟨rfl, rfl⟩) | (go_at_call 58; refine (IU.out _).mono ?_; rintro e w1 ⟨rfl, rfl⟩))
    go_ret
    exact ⟨ah HKK.out, rfl⟩
   ·
    rw [if_neg hm] at hix
    rw [hix] at IU
    have HKK := qh (show ((s.size : Nat) : Int) = (K : Nat) by rw [sF hm] at hK; omega)
    clear hb1 hb2 hK hd hr h64 h35 jZ fJ hm hix hbl hrl
    go_enter Tryz.func34, Tryz.ntmps34
    go_wp2_with (first | (go_at_call 57; refine HD.out.mono ?_; rintro e w1 ⟨rfl, rfl⟩) | (go_at_call 58; refine (IU.out _).mono ?_; rintro e w1 ⟨rfl, rfl⟩))
    go_ret
    exact ⟨ah HKK.out, rfl⟩
  rw [if_neg fJ] at hK
  have n64 : ((s[i].toNat : Int) == 64) = false := by simp; exact fun e => h64 ((toNat_eq s[i] 64 (by decide)).2 (by omega))
  have n35 : ((s[i].toNat : Int) == 35) = false := by simp; exact fun e => h35 ((toNat_eq s[i] 35 (by decide)).2 (by omega))
  have n39 : ((s[i].toNat : Int) == 39) = false := by simp; exact fun e => jZ ((toNat_eq s[i] 39 (by decide)).2 (by omega))
  have n123 : ((s[i].toNat : Int) == 123) = false := by simp; exact fun e => fJ ((toNat_eq s[i] 123 (by decide)).2 (by omega))
  rw [Bg] at hK
  obtain ⟨q1, hq1⟩ := ae (Lib.hasPrefix (s[i] :: r) [60, 62])
  have Fa := qh (show ∀ w', Calls Tryz.prog 59 #[.string (s.extract i s.size), .string ⟨#[60, 62]⟩] w' fun e w'' => e = .returned (.bool q1) ∧ w'' = w' from fun w' => by
   have h := Tryz.strings_HasPrefix (s.extract i s.size) ⟨#[60, 62]⟩ w'
   rw [jQ, hd] at h
   rwa [hq1] at h)
  obtain ⟨q2, hq2⟩ := ae (Lib.hasPrefix (s[i] :: r) [60, 61])
  have Fb := qh (show ∀ w', Calls Tryz.prog 59 #[.string (s.extract i s.size), .string ⟨#[60, 61]⟩] w' fun e w'' => e = .returned (.bool q2) ∧ w'' = w' from fun w' => by
   have h := Tryz.strings_HasPrefix (s.extract i s.size) ⟨#[60, 61]⟩ w'
   rw [jQ, hd] at h
   rwa [hq2] at h)
  obtain ⟨q3, hq3⟩ := ae (Lib.hasPrefix (s[i] :: r) [62, 61])
  have Fe := qh (show ∀ w', Calls Tryz.prog 59 #[.string (s.extract i s.size), .string ⟨#[62, 61]⟩] w' fun e w'' => e = .returned (.bool q3) ∧ w'' = w' from fun w' => by
   have h := Tryz.strings_HasPrefix (s.extract i s.size) ⟨#[62, 61]⟩ w'
   rw [jQ, hd] at h
   rwa [hq3] at h)
  rw [hq1, hq2, hq3] at hK
  clear hb1 hb2 hd hr h64 h35 jZ fJ hq1 hq2 hq3
  cases q1
  rotate_left
  ·
   have HKK := qh (show ((i : Nat) : Int) + 2 = (K : Nat) by have h := (show i + 2 = K by simpa using hK); omega)
   clear hK
   go_enter Tryz.func34, Tryz.ntmps34
   go_wp2_with (first | (go_at_call 57; refine HD.out.mono ?_; rintro e w1 ⟨rfl, rfl⟩) | (go_at_call 59; refine (Fa.out _).mono ?_; rintro e w1 ⟨rfl, rfl⟩) | (go_at_call 59; refine (Fb.out _).mono ?_; rintro e w1 ⟨rfl, rfl⟩) | (go_at_call 59; refine (Fe.out _).mono ?_; rintro e w1 ⟨rfl, rfl⟩))
   go_ret
   exact ⟨ah HKK.out, rfl⟩
  cases q2
  rotate_left
  ·
   have HKK := qh (show ((i : Nat) : Int) + 2 = (K : Nat) by have h := (show i + 2 = K by simpa using hK); omega)
   clear hK
   go_enter Tryz.func34, Tryz.ntmps34
   go_wp2_with (first | (go_at_call 57; refine HD.out.mono ?_; rintro e w1 ⟨rfl, rfl⟩) | (go_at_call 59; refine (Fa.out _).mono ?_; rintro e w1 ⟨rfl, rfl⟩) | (go_at_call 59; refine (Fb.out _).mono ?_; rintro e w1 ⟨rfl, rfl⟩) | (go_at_call 59; refine (Fe.out _).mono ?_; rintro e w1 ⟨rfl, rfl⟩))
   go_ret
   exact ⟨ah HKK.out, rfl⟩
  cases q3
  rotate_left
  ·
   have HKK := qh (show ((i : Nat) : Int) + 2 = (K : Nat) by have h := (show i + 2 = K by simpa using hK); omega)
   clear hK
   go_enter Tryz.func34, Tryz.ntmps34
   go_wp2_with (first | (go_at_call 57; refine HD.out.mono ?_; rintro e w1 ⟨rfl, rfl⟩) | (go_at_call 59; refine (Fa.out _).mono ?_; rintro e w1 ⟨rfl, rfl⟩) | (go_at_call 59; refine (Fb.out _).mono ?_; rintro e w1 ⟨rfl, rfl⟩) | (go_at_call 59; refine (Fe.out _).mono ?_; rintro e w1 ⟨rfl, rfl⟩))
   go_ret
   exact ⟨ah HKK.out, rfl⟩
  have HKK := qh (show ((i : Nat) : Int) + 1 = (K : Nat) by have h := (show i + 1 = K by simpa using hK); omega)
  clear hK
  go_enter Tryz.func34, Tryz.ntmps34
  go_wp2_with (first | (go_at_call 57; refine HD.out.mono ?_; rintro e w1 ⟨rfl, rfl⟩) | (go_at_call 59; refine (Fa.out _).mono ?_; rintro e w1 ⟨rfl, rfl⟩) | (go_at_call 59; refine (Fb.out _).mono ?_; rintro e w1 ⟨rfl, rfl⟩) | (go_at_call 59; refine (Fe.out _).mono ?_; rintro e w1 ⟨rfl, rfl⟩))
  go_ret
  exact ⟨ah HKK.out, rfl⟩
end Go.Proofs.YtobanldeicclmaaGreatDoor
namespace Go.Proofs.YtobanldeicclmaaGreatDoor
open Go.RowKit
def ai (e : Ex) (A : Option Addr) (c : Nat) (A' : Option Addr) (c' : Nat) : List Value :=
 [.int .i64 e.k, .int .i64 e.op, .string e.nm, .int .i64 e.v.k, .int .i64 e.v.n, .string e.v.s, .slice A e.v.l.length c, .slice A' e.ar.length c']
inductive lK (w : World) (B : Nat) : Ex → List Value → Prop
 | mk {e : Ex} {A : Option Addr} {c : Nat} {A' : Option Addr} {c' : Nat} {cs : List Value} (hn : e.nm.size ≤ maxLen) (hs : e.v.s.size ≤ maxLen) (hl : e.v.l.length ≤ maxLen) (ha : e.ar.length ≤ maxLen)
   (hx : Reads w B 1 A e.v.l.length (dS .i64 e.v.l)) (hr : Reads w B 8 A' e.ar.length cs) (hi : ∀ i (h : i < e.ar.length), lK w B e.ar[i] ((cs.drop (i * 8)).take 8)) : lK w B e (ai e A c A' c')
theorem lK.keep {w w' : World} {B : Nat} {e : Ex} {cs : List Value} (h : lK w B e cs) (hb : Below B w w') : lK w' B e cs := by
 induction h with
 | mk hn hs hl ha hx hr hi ih => exact .mk hn hs hl ha (hx.below hb) (hr.below hb) ih
theorem lK.up {w : World} {B B' : Nat} {e : Ex} {cs : List Value} (h : lK w B e cs) (hB : B ≤ B') : lK w B' e cs := by
 induction h with
 | mk hn hs hl ha hx hr hi ih => exact .mk hn hs hl ha (hx.more hB) (hr.more hB) ih
theorem lK.arg {w : World} {B : Nat} {e : Ex} {A' : Option Addr} {cs : List Value} (hr : Reads w B 8 A' e.ar.length cs) (hi : ∀ i (h : i < e.ar.length), lK w B e.ar[i] ((cs.drop (i * 8)).take 8)) {i : Nat} (h : i < e.ar.length) :
  ∃ ad ci, A' = some ad ∧ ad.block < B ∧ lK w B e.ar[i] ci ∧ ∀ j u, ci[j]? = some u → w.cell? ((ad.add (i * 8)).add j) = some u := by
 obtain ⟨ad, rfl, hb, hc⟩ := hr.2 (by omega)
 refine ⟨ad, _, rfl, hb, hi i h, fun j u hu => ?_⟩
 rw [pq]
 refine hc _ u ?_
 rw [List.getElem?_take] at hu
 split at hu
 ·
  rw [List.getElem?_drop] at hu; exact hu
 ·
  cases hu
theorem uH (a : Ex) : ∀ l : List Ex, aI (l ++ [a]) = aI l + a.parts
 | [] => by simp [aI]
 | b :: r => by rw [List.cons_append, aI, aI, uH a r]; omega
theorem zt (a : Ex) : ∀ l : List Ex, dM (l ++ [a]) = max (dM l) a.depth
 | [] => by simp [dM]
 | b :: r => by rw [List.cons_append, dM, dM, zt a r]; omega
theorem uI (l : List Ex) : ∀ k, aI (l.take k) ≤ aI l := by
 induction l with
 | nil => intro k; simp [aI]
 | cons a r ih =>
  intro k
  cases k with
  | zero => simp [aI]
  | succ k => rw [List.take_succ_cons, aI, aI]; have := ih k; omega
theorem IV (l : List Ex) : ∀ k, dM (l.take k) ≤ dM l := by
 induction l with
 | nil => intro k; simp [dM]
 | cons a r ih =>
  intro k
  cases k with
  | zero => simp [dM]
  | succ k => rw [List.take_succ_cons, dM, dM]; have := ih k; omega
theorem Bh {a : Ex} : ∀ {l : List Ex}, a ∈ l → a.depth ≤ dM l
 | b :: r, h => by
  rw [dM]
  rcases List.mem_cons.1 h with e | e
  ·
   rw [e]; omega
  ·
   have := Bh e; omega
theorem pM (e : Ex) : e.depth ≤ e.parts := by
 induction e using Ex.ind with
 | h e ih =>
  rw [uy, parts_eq]
  have : ∀ l : List Ex, (∀ a ∈ l, a.depth ≤ a.parts) → dM l ≤ aI l := by
   intro l
   induction l with
   | nil => intro _; simp [dM]
   | cons a r ih =>
    intro h
    have h1 := h a (List.mem_cons_self ..)
    have h2 := ih (fun b hb => h b (List.mem_cons_of_mem _ hb))
    rw [dM, aI]
    omega
  have := this e.ar ih
  omega
theorem Bi (e : Ex) : ∀ (B : Nat) (cs : List Value) (w : World), lK w B e cs → B ≤ w.heap.size → e.parts ≤ 1000000000000 →
  Calls Tryz.prog 39 #[.agg cs.toArray] w fun en w' => en = .returned (.tuple #[.int .i64 (e.parts : Nat), .int .i64 (e.depth : Nat)]) ∧ Below w.heap.size w w' := by
 induction e using Ex.ind with
 | h e ih =>
  rintro B cs w ⟨hn, hs, hl, ha, hx, hr, hi⟩ hB hp
  rename_i A c A' c' cs
  unfold maxLen at ha
  have HR := qh (And.intro hr hi)
  have HI := qh ih
  have hdp := pM e
  have HQ := qh (And.intro (parts_eq e) (uy e))
  clear hr hi ih hx
  show Calls Tryz.prog 39 #[.agg #[.int .i64 e.k, .int .i64 e.op, .string e.nm, .int .i64 e.v.k, .int .i64 e.v.n, .string e.v.s, .slice A e.v.l.length c, .slice A' e.ar.length c']] w _
  go_enter Tryz.func39, Tryz.ntmps39
  go_wp2
  go_loopw [4, 5, 13] (fun p d i wr => ∃ k : Nat, k ≤ e.ar.length ∧ i = .int .i64 k ∧ p = .int .i64 ((aI (e.ar.take k) + 1 : Nat) : Int) ∧ d = .int .i64 ((dM (e.ar.take k) : Nat) : Int) ∧ Below w.heap.size w wr) (fun _ _ i _ => e.ar.length - (intOf i).toNat)
  case atStart => exact ⟨0, Nat.zero_le _, rfl, rfl, rfl, (Below.refl _ _).alloc (Nat.le_refl _) _⟩
  case round =>
   obtain ⟨k, hk, rfl, rfl, rfl, hbr⟩ := hrel
   have tV := hbr.size
   have Bj := hbr.mono hB
   obtain ⟨P, hP⟩ := ae (aI (e.ar.take k))
   obtain ⟨D, hD⟩ := ae (dM (e.ar.take k))
   have hPb := uI e.ar k
   have hDb := IV e.ar k
   rw [hP] at hPb
   rw [hD] at hDb
   rw [hP, hD]
   by_cases hlt : k < e.ar.length
   ·
    obtain ⟨ad, ci, rfl, hb, hci, hcell⟩ := lK.arg (HR.out.1.below Bj) (fun i h => (HR.out.2 i h).keep Bj) hlt
    obtain ⟨a, hea⟩ := ae (e.ar[k])
    have ham : a ∈ e.ar := by rw [← hea]; exact List.getElem_mem hlt
    have hap := wL ham
    have had := Bh ham
    have hpe := parts_eq e
    have HS := qh (show aI (e.ar.take (k + 1)) = P + a.parts ∧ dM (e.ar.take (k + 1)) = max D a.depth by
     rw [List.take_succ_eq_append_getElem hlt, uH, zt, hea, hP, hD]; exact ⟨rfl, rfl⟩)
    have hPS : P + a.parts ≤ 1000000000000 := by
     have := uI e.ar (k + 1)
     rw [HS.out.1] at this
     omega
    have acA : a.parts ≤ 1000000000000 := by omega
    have agO : a.depth ≤ 1000000000000 := by have := pM a; omega
    have hD2 : D ≤ 1000000000000 := by have := uy e; omega
    have fO := qh hlt
    have HI1 := qh (fun w' h1 h2 => HI.out a ham B ci w' h1 h2 acA)
    rw [hea] at hci
    have VR := qh hci
    obtain ⟨hn1, hs1, hl1, ha1, hx1, hr1, hi1⟩ := hci
    rename_i A1 c1 KW c1' cs1
    have Ib : wr.cell? (ad.add (k * 8)) = some (.int .i64 a.k) := hcell 0 _ rfl
    have KA : wr.cell? ⟨(ad.add (k * 8)).block, (ad.add (k * 8)).off + 1, none⟩ = some (.int .i64 a.op) := hcell 1 _ rfl
    have QW : wr.cell? ⟨(ad.add (k * 8)).block, (ad.add (k * 8)).off + 2, none⟩ = some (.string a.nm) := hcell 2 _ rfl
    have QX : wr.cell? ⟨(ad.add (k * 8)).block, (ad.add (k * 8)).off + 3, none⟩ = some (.int .i64 a.v.k) := hcell 3 _ rfl
    have QY : wr.cell? ⟨(ad.add (k * 8)).block, (ad.add (k * 8)).off + 4, none⟩ = some (.int .i64 a.v.n) := hcell 4 _ rfl
    have QZ : wr.cell? ⟨(ad.add (k * 8)).block, (ad.add (k * 8)).off + 5, none⟩ = some (.string a.v.s) := hcell 5 _ rfl
    have Q3 : wr.cell? ⟨(ad.add (k * 8)).block, (ad.add (k * 8)).off + 6, none⟩ = some (.slice A1 a.v.l.length c1) := hcell 6 _ rfl
    have Q4 : wr.cell? ⟨(ad.add (k * 8)).block, (ad.add (k * 8)).off + 7, none⟩ = some (.slice KW a.ar.length c1') := hcell 7 _ rfl
    clear hx1 hr1 hi1 hcell hP hD hea ham hap had hpe hPb hDb hdp
    go_wp2_with fail
    obtain ⟨W, hW⟩ := au (wr.alloc (.cells #[.int .i64 a.k, .int .i64 a.op, .string a.nm, .int .i64 a.v.k, .int .i64 a.v.n, .string a.v.s, .slice A1 a.v.l.length c1, .slice KW a.ar.length c1'] 27 (0, 0)))
    have hbW : Below wr.heap.size wr W := hW ▸ (Below.refl _ wr).alloc (Nat.le_refl _) _
    rw [← hW]
    have hb2 := hbr.trans (hbW.mono tV)
    have hbB := hbW.mono (Nat.le_trans hB tV)
    clear hW Ib KA QW QX QY QZ Q3 Q4
    refine (HI1.out W (VR.out.keep hbB) (Nat.le_trans hB hb2.size)).mono ?_
    rintro en w3 ⟨rfl, hb3⟩
    have hbw := hb2.trans (hb3.mono hb2.size)
    clear hb3 hbW hbB hb2
    go_wp2
    go_roundw
    case rel => exact ⟨k + 1, fO.out, by go_num, by rw [HS.out.1]; go_num, by rw [HS.out.2]; go_num, hbw⟩
    case measure =>
     have := fO.out
     simp [intOf]
     omega
   ·
    have hke : e.ar.take k = e.ar := List.take_of_length_le (by omega)
    have HF := qh (show e.parts = P + 1 ∧ e.depth = D + 1 by rw [HQ.out.1, HQ.out.2, ← hP, ← hD, hke]; exact ⟨rfl, rfl⟩)
    have hD2 : D ≤ 1000000000000 := by have := uy e; omega
    clear hP hD hke hPb hDb hdp
    go_wp2
    go_ret2
    exact ⟨eP (by rw [HF.out.1, HF.out.2]; rfl), hbr⟩
abbrev Sp (w : World) : Prop := Lib.TabIs Tryz.prog w "strings.asciiSpace" .u8 Lib.asciiSpaceTab
theorem bD {w w' : World} {n : String} {k : IntKind} {l : List Int} (h : Lib.TabIs Tryz.prog w n k l) (hb : Below w.heap.size w w') : Lib.TabIs Tryz.prog w' n k l := by
 unfold Lib.TabIs World.var? at *
 cases hg : Tryz.prog.globalNamed n with
 | none => rw [hg] at h; cases h
 | some g =>
  rw [hg] at h
  simp only [Option.bind_some] at h ⊢
  have hlt : g < w.heap.size := by
   rcases Nat.lt_or_ge g w.heap.size with h' | h'
   ·
    exact h'
   ·
    rw [Array.getElem?_eq_none h'] at h; cases h
  rw [hb.block g hlt]
  exact h
theorem Ff (l : List UInt8) (h : l.all (fun b => decide (b.toNat < 128)) = true) : ∀ (j : Nat) b, l[j]? = some b → b.toNat < 128 := fun j b hb => by
 rw [List.all_eq_true] at h
 have := h b (List.mem_of_getElem? hb)
 simpa using this
theorem Bl (w : World) (h : Sp w) :
  Calls Tryz.prog 119 #[.string ⟨#[97, 110, 100, 32, 111, 114, 32, 110, 111, 116, 32, 105, 110, 32, 104, 97, 115, 32, 109, 111, 100, 32, 116, 114, 117, 101, 32, 102, 97, 108, 115, 101]⟩] w fun e w' => e = .returned (.slice (some ⟨w.heap.size, 0, none⟩) 8 8) ∧ w' = w.alloc (.cells #[.string ⟨#[97, 110, 100]⟩, .string ⟨#[111, 114]⟩, .string ⟨#[110, 111, 116]⟩, .string ⟨#[105, 110]⟩, .string ⟨#[104, 97, 115]⟩, .string ⟨#[109, 111, 100]⟩, .string ⟨#[116, 114, 117, 101]⟩, .string ⟨#[102, 97, 108, 115, 101]⟩] 9) := by
 have e : Lib.fields (⟨#[97, 110, 100, 32, 111, 114, 32, 110, 111, 116, 32, 105, 110, 32, 104, 97, 115, 32, 109, 111, 100, 32, 116, 114, 117, 101, 32, 102, 97, 108, 115, 101]⟩ : ByteArray).data.toList = aB := by decide +kernel
 have hc := Tryz.strings_Fields ⟨#[97, 110, 100, 32, 111, 114, 32, 110, 111, 116, 32, 105, 110, 32, 104, 97, 115, 32, 109, 111, 100, 32, 116, 114, 117, 101, 32, 102, 97, 108, 115, 101]⟩ w (by decide) (Ff _ (by decide +kernel)) h
 rw [e] at hc
 exact hc
theorem xP (b : Nat) (s : ByteArray) (w : World) (hB : af w b 9 #[.string ⟨#[97, 110, 100]⟩, .string ⟨#[111, 114]⟩, .string ⟨#[110, 111, 116]⟩, .string ⟨#[105, 110]⟩, .string ⟨#[104, 97, 115]⟩, .string ⟨#[109, 111, 100]⟩, .string ⟨#[116, 114, 117, 101]⟩, .string ⟨#[102, 97, 108, 115, 101]⟩]) :
  Calls Tryz.prog 118 #[.slice (some ⟨b, 0, none⟩) 8 8, .string s] w fun e w' => e = .returned (.bool (aB.contains s.data.toList)) ∧ w = w' := by
 have hzs : (aB.map (fun l => (⟨l.toArray⟩ : ByteArray))).length = 8 := rfl
 refine (Tryz.slices_Contains_string b 0 8 8 (aB.map (fun l => (⟨l.toArray⟩ : ByteArray))) s w (by decide) (by decide) (fun j hj => ?_)).mono fun e w' ⟨he, hw⟩ => ⟨?_, hw.symm⟩
 ·
  rw [hzs] at hj
  rw [Nat.zero_add, hB.cell j]
  have : j = 0 ∨ j = 1 ∨ j = 2 ∨ j = 3 ∨ j = 4 ∨ j = 5 ∨ j = 6 ∨ j = 7 := by omega
  rcases this with rfl | rfl | rfl | rfl | rfl | rfl | rfl | rfl <;> rfl
 ·
  rw [he, ← hzs, List.take_length]
  congr 2
  rw [Bool.eq_iff_iff, Lib.containsS_iff, List.contains_iff_mem, List.mem_map]
  constructor
  ·
   rintro ⟨l, hl, e⟩
   rw [← e]; exact hl
  ·
   intro hl
   exact ⟨_, hl, rfl⟩
theorem uJ (s : ByteArray) (w : World) (hs : s.size ≤ maxLen) (hsp : Sp w) :
  Calls Tryz.prog 95 #[.string s] w fun e w' => e = .returned (.bool (eu s.data.toList)) ∧ Below w.heap.size w w' := by
 unfold maxLen at hs
 have DK := qh hsp
 clear hsp
 have hsl : s.data.toList.length = s.size := rfl
 by_cases h0 : s = ⟨#[]⟩
 ·
  have HF := qh (xO (s := s.data.toList) (by rw [h0]))
  subst h0
  go_enter Tryz.func95, Tryz.ntmps95
  go_wp2_with fail
  go_ret
  exact ⟨aj (by rw [HF.out]), Below.refl _ _⟩
 have hp : 0 < s.size := by
  rcases Nat.eq_zero_or_pos s.size with h | h
  ·
   exact absurd (ByteArray.ext (Array.toList_inj.1 (List.eq_nil_of_length_eq_zero (hsl.trans h)))) h0
  ·
   exact h
 have se : s.toList.isEmpty = false := by rw [ByteArray.toList_eq]; cases hh : s.data.toList with
  | nil => rw [hh] at hsl; simp at hsl; omega
  | cons a r => rfl
 have HC := qh (head_cons hp)
 by_cases h1 : 16 < s.size
 ·
  have HF := qh (zn (s := s.data.toList) h1)
  have b1 : decide ((16 : Int) < (s.size : Nat)) = true := by simp; omega
  clear h0 hsl h1
  go_enter Tryz.func95, Tryz.ntmps95
  go_wp2_with fail
  go_ret
  exact ⟨aj (by rw [HF.out]), Below.refl _ _⟩
 have b1 : decide ((16 : Int) < (s.size : Nat)) = false := by simp; omega
 by_cases Z8 : ((s[0].toNat : Nat) : Int) < 97
 ·
  have HF := qh (show eu s.data.toList = false by rw [HC.out]; exact wY (by unfold dE; simp; omega))
  have b2 : decide (((s[0].toNat : Nat) : Int) < 97) = true := by simpa using Z8
  clear h0 hsl h1 Z8
  go_enter Tryz.func95, Tryz.ntmps95
  go_wp2_with fail
  go_ret
  exact ⟨aj (by rw [HF.out]), Below.refl _ _⟩
 have b2 : decide (((s[0].toNat : Nat) : Int) < 97) = false := by simpa using Z8
 by_cases h2b : 122 < ((s[0].toNat : Nat) : Int)
 ·
  have HF := qh (show eu s.data.toList = false by rw [HC.out]; exact wY (by unfold dE; simp; omega))
  have b3 : decide (122 < ((s[0].toNat : Nat) : Int)) = true := by simpa using h2b
  clear h0 hsl h1 Z8 b3
  go_enter Tryz.func95, Tryz.ntmps95
  go_wp2_with fail
  go_ret
  exact ⟨aj (by rw [HF.out]), Below.refl _ _⟩
 have b3 : decide (122 < ((s[0].toNat : Nat) : Int)) = false := by simpa using h2b
 have h2 : dE s[0] = true := by unfold dE; simp; omega
 obtain ⟨r, hr⟩ := ae (aB.contains s.data.toList)
 have HR := qh hr
 have HF := qh (show r = false → eu s.data.toList = s.data.toList.all bK from fun e => by
  rw [e] at hr
  rw [HC.out] at hr ⊢
  exact zo (by rw [← HC.out]; omega) h2 hr)
 have hle : s.size ≤ 16 := by omega
 clear h0 hsl h1 h2 Z8 b3 hr
 have hxx : True := trivial
 go_enter Tryz.func95, Tryz.ntmps95
 go_wp2_with fail
 refine (Bl w DK.out).mono ?_
 rintro e w1 ⟨rfl, hw1⟩
 have hb1 : Below w.heap.size w w1 := hw1 ▸ (Below.refl _ w).alloc (Nat.le_refl _) _
 have B1 : af w1 w.heap.size 9 #[.string ⟨#[97, 110, 100]⟩, .string ⟨#[111, 114]⟩, .string ⟨#[110, 111, 116]⟩, .string ⟨#[105, 110]⟩, .string ⟨#[104, 97, 115]⟩, .string ⟨#[109, 111, 100]⟩, .string ⟨#[116, 114, 117, 101]⟩, .string ⟨#[102, 97, 108, 115, 101]⟩] := hw1 ▸ af.new w _ _
 clear hw1
 go_wp2_with fail
 refine (xP w.heap.size s w1 B1).mono ?_
 rw [HR.out]
 rintro e w2 ⟨rfl, rfl⟩
 cases r
 rotate_left
 ·
  have HG := qh (AZ HR.out)
  go_wp2_with fail
  go_ret
  exact ⟨aj (by rw [HG.out]), hb1⟩
 go_wp2_with fail
 go_loop [28, 3] (fun i u => ∃ k : Nat, k ≤ s.size ∧ i = .int .i64 k ∧ Hid ((s.data.toList.take k).all bK = true)) (fun i _ => s.size - (intOf i).toNat)
 case atStart => exact ⟨0, Nat.zero_le _, rfl, qh rfl⟩
 case round =>
  obtain ⟨k, hk, rfl, HA⟩ := hrel
  by_cases hlt : k < s.size
  ·
   obtain ⟨b, hb⟩ := ae (bK s[k])
   have HB := qh hb
   have HS := qh ((IQ hlt HA.out).trans hb)
   have fO := qh hlt
   have HW := qh (show Calls Tryz.prog 35 #[.int .u8 (s[k].toNat : Nat)] w1 fun e w'' => e = .returned (.bool b) ∧ w1 = w'' from by
    exact (oN s[k] w1).mono fun e w'' ⟨he, hw⟩ => ⟨he.trans (congrArg (fun x => Ending.returned (.bool x)) hb), hw⟩)
   clear hb
   go_wp2_with fail
   refine HW.out.mono ?_
   rintro e w2 ⟨rfl, rfl⟩
   cases b
   ·
    have HG := qh (NL fO.out HB.out)
    go_wp2_with fail
    go_ret
    exact ⟨aj (by rw [HF.out (by first | rfl | trivial), HG.out]), hb1⟩
   ·
    go_wp2_with fail
    go_round
    case rel => exact ⟨k + 1, fO.out, by go_num, HS⟩
    case measure =>
     have := fO.out
     simp [intOf]
     omega
  ·
   have HG := qh (show s.data.toList.all bK = true by
    have h := HA.out
    rwa [List.take_of_length_le (by show s.size ≤ k; omega)] at h)
   go_wp2_with fail
   go_ret
   exact ⟨aj (by rw [HF.out (by first | rfl | trivial), HG.out]), hb1⟩
end Go.Proofs.YtobanldeicclmaaGreatDoor
