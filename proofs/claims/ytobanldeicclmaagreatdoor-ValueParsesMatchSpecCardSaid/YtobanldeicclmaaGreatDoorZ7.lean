/- Lemmas for the claim: walks and plain laws. -/
import Derived.Test.YtobanldeicclmaaGreatDoorZ6
import Derived.Test.YtobanldeicclmaaGreatDoorZSh
import Derived.LoopN
set_option maxHeartbeats 2000000
set_option maxRecDepth 100000
namespace Go.Proofs.YtobanldeicclmaaGreatDoor
open Go.RowKit Vtx
theorem jC (c : UInt8) (w : World) :
  Calls Tryz.prog 80 #[.int .u8 (c.toNat : Nat)] w fun e w' => e = .returned (.bool (bI c)) ∧ w = w' := by
 go_enter Tryz.func80, Tryz.ntmps80
 go_wp2
 all_goals (go_ret; exact ⟨aj (by unfold bI; rw [Bool.eq_iff_iff]; simp; try omega), rfl⟩)
theorem toNat_eq (c : UInt8) (n : Nat) (hn : n < 256) : (c = UInt8.ofNat n) ↔ c.toNat = n := by
 constructor
 ·
  rintro rfl; simp; omega
 ·
  intro h; apply UInt8.toNat_inj.1; rw [h]; simp; omega
theorem OZ (c : UInt8) (w : World) :
  Calls Tryz.prog 81 #[.int .u8 (c.toNat : Nat)] w fun e w' => e = .returned (.bool (iH c)) ∧ w = w' := by
 obtain ⟨b, hb⟩ := ae (bI c)
 have HP := qh (show iH c = (b || decide (c.toNat = 46)) by unfold iH; rw [hb, show decide (c = 46) = decide (c.toNat = 46) from decide_eq_decide.2 (toNat_eq c 46 (by decide))])
 have H := qh (show ∀ w', Calls Tryz.prog 80 #[.int .u8 (c.toNat : Nat)] w' fun e w'' => e = .returned (.bool b) ∧ w' = w'' from fun w' => by
  have h := jC c w'
  rwa [hb] at h)
 clear hb
 cases b
 ·
  go_enter Tryz.func81, Tryz.ntmps81
  go_wp2_with fail
  refine (H.out _).mono ?_
  rintro e w1 ⟨rfl, rfl⟩
  go_wp2_with fail
  all_goals (go_ret; exact ⟨aj (by rw [HP.out]; rw [Bool.eq_iff_iff]; simp; try omega), rfl⟩)
 ·
  go_enter Tryz.func81, Tryz.ntmps81
  go_wp2_with fail
  refine (H.out _).mono ?_
  rintro e w1 ⟨rfl, rfl⟩
  go_wp2_with fail
  all_goals (go_ret; exact ⟨aj (by rw [HP.out]; rfl), rfl⟩)
theorem O0 (c : UInt8) (w : World) :
  Calls Tryz.prog 82 #[.int .u8 (c.toNat : Nat)] w fun e w' => e = .returned (.bool (jY c)) ∧ w = w' := by
 obtain ⟨b, hb⟩ := ae (bI c)
 have HP := qh (show jY c = (b || decide (c.toNat = 45)) by unfold jY; rw [hb, show decide (c = 45) = decide (c.toNat = 45) from decide_eq_decide.2 (toNat_eq c 45 (by decide))])
 have H := qh (show ∀ w', Calls Tryz.prog 80 #[.int .u8 (c.toNat : Nat)] w' fun e w'' => e = .returned (.bool b) ∧ w' = w'' from fun w' => by
  have h := jC c w'
  rwa [hb] at h)
 clear hb
 cases b
 ·
  go_enter Tryz.func82, Tryz.ntmps82
  go_wp2_with fail
  refine (H.out _).mono ?_
  rintro e w1 ⟨rfl, rfl⟩
  go_wp2_with fail
  all_goals (go_ret; exact ⟨aj (by rw [HP.out]; rw [Bool.eq_iff_iff]; simp; try omega), rfl⟩)
 ·
  go_enter Tryz.func82, Tryz.ntmps82
  go_wp2_with fail
  refine (H.out _).mono ?_
  rintro e w1 ⟨rfl, rfl⟩
  go_wp2_with fail
  all_goals (go_ret; exact ⟨aj (by rw [HP.out]; rfl), rfl⟩)
theorem lG {s : ByteArray} {i : Nat} (h : i < s.size) : s.data.toList.drop i = s[i] :: s.data.toList.drop (i + 1) := by
 have hl : i < s.data.toList.length := by rw [Array.length_toList]; exact h
 rw [List.drop_eq_getElem_cons hl]
 rfl
theorem drop_end {s : ByteArray} {i : Nat} (h : s.size ≤ i) : s.data.toList.drop i = [] := List.drop_eq_nil_of_le (by rw [Array.length_toList]; exact h)
theorem iY {s : ByteArray} {p : UInt8 → Bool} {i k : Nat} (h : i < s.size) (hp : p s[i] = true) (hr : k = i + aK p (s.data.toList.drop i)) : k = i + 1 + aK p (s.data.toList.drop (i + 1)) := by
 rw [hr, lG h, aK, hp, if_pos rfl]; omega
theorem jw {s : ByteArray} {p : UInt8 → Bool} {i k : Nat} (h : i < s.size) (hp : p s[i] = false) (hr : k = i + aK p (s.data.toList.drop i)) : k = i := by
 rw [hr, lG h, aK, hp, if_neg (by decide)]; rfl
theorem kK {s : ByteArray} {p : UInt8 → Bool} {i k : Nat} (h : ¬ i < s.size) (hr : k = i + aK p (s.data.toList.drop i)) : k = i := by
 rw [hr, drop_end (by omega)]; rfl
theorem O1 (g : Nat) (s : ByteArray) (k : Nat) (w : World) (hc : w.cell? ⟨g, 0, none⟩ = some (.string s)) (hk : k ≤ s.size) (hs : s.size ≤ 4000) :
  Calls Tryz.prog 79 #[.pointer (some ⟨g, 0, none⟩), .int .i64 (k : Nat), .func (.func 52) #[] #[]] w fun e w' => e = .returned (.int .i64 ((k + aK bK (s.data.toList.drop k) : Nat) : Int)) ∧ w = w' := by
 obtain ⟨K, hK⟩ := ae (k + aK bK (s.data.toList.drop k))
 have HK := qh hK.symm
 rw [hK]
 clear hK
 go_enter Tryz.func79, Tryz.ntmps79
 go_wp2_with fail
 go_loop [1] (fun i => ∃ n : Nat, n ≤ s.size ∧ i = .int .i64 n ∧ Hid (K = n + aK bK (s.data.toList.drop n))) (fun i => s.size - (intOf i).toNat)
 case atStart => exact ⟨k, hk, rfl, HK⟩
 case round =>
  obtain ⟨n, hn, rfl, HR⟩ := hrel
  by_cases hlt : n < s.size
  ·
   obtain ⟨b, hb⟩ := ae (bK s[n])
   have HB := qh hb
   have fO := qh hlt
   have HW := qh (show Calls Tryz.prog 52 #[.int .u8 (s[n].toNat : Nat)] w fun e w'' => e = .returned (.bool b) ∧ w = w'' from by
    exact (jv s[n] w).mono fun e w'' ⟨he, hw⟩ => ⟨he.trans (congrArg (fun x => Ending.returned (.bool x)) hb), hw⟩)
   clear hb
   cases b
   ·
    have HG := qh (jw fO.out HB.out HR.out)
    go_wp2_with (go_at_call 52; refine HW.out.mono ?_; rintro e w1 ⟨rfl, rfl⟩)
    go_ret
    exact ⟨by rw [HG.out]; try rfl, rfl⟩
   ·
    have HG := qh (iY fO.out HB.out HR.out)
    go_wp2_with (go_at_call 52; refine HW.out.mono ?_; rintro e w1 ⟨rfl, rfl⟩)
    go_round
    case rel => exact ⟨n + 1, fO.out, by go_num, HG⟩
    case measure =>
     have := fO.out
     simp [intOf]
     omega
  ·
   have HG := qh (kK hlt HR.out)
   go_wp2_with fail
   go_ret
   exact ⟨by rw [HG.out]; try rfl, rfl⟩
theorem KT (g : Nat) (s : ByteArray) (k : Nat) (w : World) (hc : w.cell? ⟨g, 0, none⟩ = some (.string s)) (hk : k ≤ s.size) (hs : s.size ≤ 4000) :
  Calls Tryz.prog 79 #[.pointer (some ⟨g, 0, none⟩), .int .i64 (k : Nat), .func (.func 81) #[] #[]] w fun e w' => e = .returned (.int .i64 ((k + aK iH (s.data.toList.drop k) : Nat) : Int)) ∧ w = w' := by
 obtain ⟨K, hK⟩ := ae (k + aK iH (s.data.toList.drop k))
 have HK := qh hK.symm
 rw [hK]
 clear hK
 go_enter Tryz.func79, Tryz.ntmps79
 go_wp2_with fail
 go_loop [1] (fun i => ∃ n : Nat, n ≤ s.size ∧ i = .int .i64 n ∧ Hid (K = n + aK iH (s.data.toList.drop n))) (fun i => s.size - (intOf i).toNat)
 case atStart => exact ⟨k, hk, rfl, HK⟩
 case round =>
  obtain ⟨n, hn, rfl, HR⟩ := hrel
  by_cases hlt : n < s.size
  ·
   obtain ⟨b, hb⟩ := ae (iH s[n])
   have HB := qh hb
   have fO := qh hlt
   have HW := qh (show Calls Tryz.prog 81 #[.int .u8 (s[n].toNat : Nat)] w fun e w'' => e = .returned (.bool b) ∧ w = w'' from by
    exact (OZ s[n] w).mono fun e w'' ⟨he, hw⟩ => ⟨he.trans (congrArg (fun x => Ending.returned (.bool x)) hb), hw⟩)
   clear hb
   cases b
   ·
    have HG := qh (jw fO.out HB.out HR.out)
    go_wp2_with (go_at_call 81; refine HW.out.mono ?_; rintro e w1 ⟨rfl, rfl⟩)
    go_ret
    exact ⟨by rw [HG.out]; try rfl, rfl⟩
   ·
    have HG := qh (iY fO.out HB.out HR.out)
    go_wp2_with (go_at_call 81; refine HW.out.mono ?_; rintro e w1 ⟨rfl, rfl⟩)
    go_round
    case rel => exact ⟨n + 1, fO.out, by go_num, HG⟩
    case measure =>
     have := fO.out
     simp [intOf]
     omega
  ·
   have HG := qh (kK hlt HR.out)
   go_wp2_with fail
   go_ret
   exact ⟨by rw [HG.out]; try rfl, rfl⟩
theorem O3 (g : Nat) (s : ByteArray) (k : Nat) (w : World) (hc : w.cell? ⟨g, 0, none⟩ = some (.string s)) (hk : k ≤ s.size) (hs : s.size ≤ 4000) :
  Calls Tryz.prog 79 #[.pointer (some ⟨g, 0, none⟩), .int .i64 (k : Nat), .func (.func 82) #[] #[]] w fun e w' => e = .returned (.int .i64 ((k + aK jY (s.data.toList.drop k) : Nat) : Int)) ∧ w = w' := by
 obtain ⟨K, hK⟩ := ae (k + aK jY (s.data.toList.drop k))
 have HK := qh hK.symm
 rw [hK]
 clear hK
 go_enter Tryz.func79, Tryz.ntmps79
 go_wp2_with fail
 go_loop [1] (fun i => ∃ n : Nat, n ≤ s.size ∧ i = .int .i64 n ∧ Hid (K = n + aK jY (s.data.toList.drop n))) (fun i => s.size - (intOf i).toNat)
 case atStart => exact ⟨k, hk, rfl, HK⟩
 case round =>
  obtain ⟨n, hn, rfl, HR⟩ := hrel
  by_cases hlt : n < s.size
  ·
   obtain ⟨b, hb⟩ := ae (jY s[n])
   have HB := qh hb
   have fO := qh hlt
   have HW := qh (show Calls Tryz.prog 82 #[.int .u8 (s[n].toNat : Nat)] w fun e w'' => e = .returned (.bool b) ∧ w = w'' from by
    exact (O0 s[n] w).mono fun e w'' ⟨he, hw⟩ => ⟨he.trans (congrArg (fun x => Ending.returned (.bool x)) hb), hw⟩)
   clear hb
   cases b
   ·
    have HG := qh (jw fO.out HB.out HR.out)
    go_wp2_with (go_at_call 82; refine HW.out.mono ?_; rintro e w1 ⟨rfl, rfl⟩)
    go_ret
    exact ⟨by rw [HG.out]; try rfl, rfl⟩
   ·
    have HG := qh (iY fO.out HB.out HR.out)
    go_wp2_with (go_at_call 82; refine HW.out.mono ?_; rintro e w1 ⟨rfl, rfl⟩)
    go_round
    case rel => exact ⟨n + 1, fO.out, by go_num, HG⟩
    case measure =>
     have := fO.out
     simp [intOf]
     omega
  ·
   have HG := qh (kK hlt HR.out)
   go_wp2_with fail
   go_ret
   exact ⟨by rw [HG.out]; try rfl, rfl⟩
theorem SI (g : Nat) (s : ByteArray) (k : Nat) (w : World) (hc : w.cell? ⟨g, 0, none⟩ = some (.string s)) (hk : k ≤ s.size) (hs : s.size ≤ 4000) :
  Calls Tryz.prog 79 #[.pointer (some ⟨g, 0, none⟩), .int .i64 (k : Nat), .func (.func 80) #[] #[]] w fun e w' => e = .returned (.int .i64 ((k + aK bI (s.data.toList.drop k) : Nat) : Int)) ∧ w = w' := by
 obtain ⟨K, hK⟩ := ae (k + aK bI (s.data.toList.drop k))
 have HK := qh hK.symm
 rw [hK]
 clear hK
 go_enter Tryz.func79, Tryz.ntmps79
 go_wp2_with fail
 go_loop [1] (fun i => ∃ n : Nat, n ≤ s.size ∧ i = .int .i64 n ∧ Hid (K = n + aK bI (s.data.toList.drop n))) (fun i => s.size - (intOf i).toNat)
 case atStart => exact ⟨k, hk, rfl, HK⟩
 case round =>
  obtain ⟨n, hn, rfl, HR⟩ := hrel
  by_cases hlt : n < s.size
  ·
   obtain ⟨b, hb⟩ := ae (bI s[n])
   have HB := qh hb
   have fO := qh hlt
   have HW := qh (show Calls Tryz.prog 80 #[.int .u8 (s[n].toNat : Nat)] w fun e w'' => e = .returned (.bool b) ∧ w = w'' from by
    exact (jC s[n] w).mono fun e w'' ⟨he, hw⟩ => ⟨he.trans (congrArg (fun x => Ending.returned (.bool x)) hb), hw⟩)
   clear hb
   cases b
   ·
    have HG := qh (jw fO.out HB.out HR.out)
    go_wp2_with (go_at_call 80; refine HW.out.mono ?_; rintro e w1 ⟨rfl, rfl⟩)
    go_ret
    exact ⟨by rw [HG.out]; try rfl, rfl⟩
   ·
    have HG := qh (iY fO.out HB.out HR.out)
    go_wp2_with (go_at_call 80; refine HW.out.mono ?_; rintro e w1 ⟨rfl, rfl⟩)
    go_round
    case rel => exact ⟨n + 1, fO.out, by go_num, HG⟩
    case measure =>
     have := fO.out
     simp [intOf]
     omega
  ·
   have HG := qh (kK hlt HR.out)
   go_wp2_with fail
   go_ret
   exact ⟨by rw [HG.out]; try rfl, rfl⟩
theorem Ba {s : ByteArray} {i k : Nat} (h : i + 1 < s.size) (h1 : s[i] = 39) (h2 : s[i + 1] = 39) (hr : k = i + bU (s.data.toList.drop i)) : k = i + 2 + bU (s.data.toList.drop (i + 2)) := by
 have e : bU (s[i] :: s[i + 1] :: s.data.toList.drop (i + 1 + 1)) = bU (s.data.toList.drop (i + 1 + 1)) + 2 := by rw [bU, if_neg (by simp [h1]), if_pos h2]
 rw [hr, lG (i := i) (by omega), lG h, e, show i + 1 + 1 = i + 2 from rfl]; omega
theorem Bc {s : ByteArray} {i k : Nat} (h : i + 1 < s.size) (h1 : s[i] = 39) (h2 : s[i + 1] ≠ 39) (hr : k = i + bU (s.data.toList.drop i)) : k = i + 1 := by
 have e : bU (s[i] :: s[i + 1] :: s.data.toList.drop (i + 1 + 1)) = 1 := by rw [bU, if_neg (by simp [h1]), if_neg h2]
 rw [hr, lG (i := i) (by omega), lG h, e]
theorem Be {s : ByteArray} {i k : Nat} (h : i < s.size) (h2 : ¬ i + 1 < s.size) (hr : k = i + bU (s.data.toList.drop i)) : k = i + 1 := by
 rw [hr, lG h, drop_end (i := i + 1) (by omega)]; rfl
theorem yE {s : ByteArray} {i k : Nat} (h : i < s.size) (h1 : s[i] ≠ 39) (hr : k = i + bU (s.data.toList.drop i)) : k = i + 1 + bU (s.data.toList.drop (i + 1)) := by
 by_cases h2 : i + 1 < s.size
 ·
  have e : bU (s[i] :: s[i + 1] :: s.data.toList.drop (i + 1 + 1)) = bU (s[i + 1] :: s.data.toList.drop (i + 1 + 1)) + 1 := by rw [bU, if_pos h1]
  rw [hr, lG h, lG h2, e]; omega
 ·
  rw [hr, lG h, drop_end (i := i + 1) (by omega)]; rfl
theorem Bf {s : ByteArray} {i k : Nat} (h : ¬ i < s.size) (hr : k = i + bU (s.data.toList.drop i)) : k = i := by
 rw [hr, drop_end (by omega)]; rfl
theorem KU (g : Nat) (s : ByteArray) (k : Nat) (w : World) (hc : w.cell? ⟨g, 0, none⟩ = some (.string s)) (hk : k < s.size) (hs : s.size ≤ 4000) :
  Calls Tryz.prog 83 #[.pointer (some ⟨g, 0, none⟩), .int .i64 (k : Nat)] w fun e w' => e = .returned (.int .i64 ((k + 1 + bU (s.data.toList.drop (k + 1)) : Nat) : Int)) ∧ w = w' := by
 obtain ⟨K, hK⟩ := ae (k + 1 + bU (s.data.toList.drop (k + 1)))
 have HK := qh hK.symm
 rw [hK]
 clear hK
 go_enter Tryz.func83, Tryz.ntmps83
 go_wp2_with fail
 go_loop [5] (fun i => ∃ n : Nat, n ≤ s.size ∧ i = .int .i64 n ∧ Hid (K = n + bU (s.data.toList.drop n))) (fun i => s.size - (intOf i).toNat)
 case atStart => exact ⟨k + 1, hk, by go_num, HK⟩
 case round =>
  obtain ⟨n, hn, rfl, HR⟩ := hrel
  by_cases hlt : n < s.size
  ·
   have fO := qh hlt
   by_cases jZ : s[n].toNat = 39
   ·
    have uG : s[n] = 39 := (toNat_eq s[n] 39 (by decide)).2 jZ
    by_cases hl2 : n + 1 < s.size
    ·
     have Z4 : ((n : Int) + 1) < (s.size : Int) := by omega
     by_cases h2 : s[n + 1].toNat = 39
     ·
      have HG := qh (Ba hl2 uG ((toNat_eq s[n + 1] 39 (by decide)).2 h2) HR.out)
      have HL2 := qh hl2
      have b1 : ((s[n].toNat : Int) != 39) = false := by simp; omega
      have b2 : ((s[n + 1].toNat : Int) == 39) = true := by simp; omega
      clear jZ uG h2
      go_wp2_with fail
      go_round
      case rel => exact ⟨n + 2, HL2.out, by go_num, HG⟩
      case measure =>
       have := HL2.out
       simp [intOf]
       omega
     ·
      have HG := qh (Bc hl2 uG (fun e => h2 ((toNat_eq s[n + 1] 39 (by decide)).1 e)) HR.out)
      have b1 : ((s[n].toNat : Int) != 39) = false := by simp; omega
      have b2 : ((s[n + 1].toNat : Int) == 39) = false := by simp; omega
      clear jZ uG h2
      go_wp2_with fail
      go_ret
      exact ⟨by rw [HG.out]; try rfl, rfl⟩
    ·
     have HG := qh (Be hlt hl2 HR.out)
     have b1 : ((s[n].toNat : Int) != 39) = false := by simp; omega
     clear jZ uG
     go_wp2_with fail
     go_ret
     exact ⟨by rw [HG.out]; try rfl, rfl⟩
   ·
    have HG := qh (yE hlt (fun e => jZ ((toNat_eq s[n] 39 (by decide)).1 e)) HR.out)
    have b1 : ((s[n].toNat : Int) != 39) = true := by simp; omega
    clear jZ
    go_wp2_with fail
    go_round
    case rel => exact ⟨n + 1, fO.out, by go_num, HG⟩
    case measure =>
     have := fO.out
     simp [intOf]
     omega
  ·
   have HG := qh (Bf hlt HR.out)
   have hke : n = s.size := by omega
   go_wp2_with fail
   go_ret
   exact ⟨by rw [HG.out, hke]; try rfl, rfl⟩
theorem jQ (s : ByteArray) (i : Nat) : (s.extract i s.size).data.toList = s.data.toList.drop i := by
 rw [Lib.extract_data]
 exact List.take_of_length_le (by rw [List.length_drop, Array.length_toList]; exact Nat.le_refl _)
theorem qA : ∀ r : List UInt8, Lib.indexByte r 125 = if (125 : UInt8) ∈ r then ((fZ r : Nat) : Int) - 1 else -1
 | [] => by simp [Lib.indexByte]
 | b :: l => by
  rw [Lib.indexByte, fZ]
  by_cases hb : b = 125
  ·
   subst hb
   rw [if_pos (by decide), if_pos (List.mem_cons_self ..), if_pos rfl]; rfl
  ·
   have ih := qA l
   rw [if_neg (by simpa using hb), if_neg hb, ih]
   by_cases hm : (125 : UInt8) ∈ l
   ·
    have hp : 1 ≤ fZ l := by
     cases l with
     | nil => cases hm
     | cons a l => rw [fZ]; split <;> omega
    rw [if_pos hm, if_pos (List.mem_cons_of_mem _ hm), if_neg (by simp; omega)]
    omega
   ·
    rw [if_neg hm, if_pos (by decide), if_neg (fun h => by
     rcases List.mem_cons.1 h with e | e
     ·
      exact hb e.symm
     ·
      exact hm e)]
theorem sF : ∀ {r : List UInt8}, (125 : UInt8) ∉ r → fZ r = r.length
 | [], _ => rfl
 | b :: l, h => by
  rw [fZ, if_neg (fun e => h (by rw [e]; exact List.mem_cons_self ..)), sF (fun e => h (List.mem_cons_of_mem _ e)), List.length_cons]
theorem Gp (a b c : UInt8) (r : List UInt8) : Lib.hasPrefix (c :: r) [a, b] = (decide (c = a) && (match r with
  | d :: _ => decide (d = b)
  | [] => false)) := by
 unfold Lib.hasPrefix
 cases r with
 | nil => simp [List.isPrefixOf]
 | cons d r =>
  have h : ∀ x y : UInt8, (x == y) = decide (y = x) := fun x y => by
   by_cases e : y = x
   ·
    subst e; simp
   ·
    rw [decide_eq_false e]; simpa using fun h => e h.symm
  simp [List.isPrefixOf, h]
theorem Bg (c : UInt8) (r : List UInt8) : qo c r = if (Lib.hasPrefix (c :: r) [60, 62] || Lib.hasPrefix (c :: r) [60, 61] || Lib.hasPrefix (c :: r) [62, 61]) = true then 2 else 1 := by
 rw [Gp, Gp, Gp]
 cases r with
 | nil => simp [qo]
 | cons d r =>
  unfold qo F9
  dsimp only
  congr 1
  by_cases h1 : c = 60 <;> by_cases h2 : c = 62 <;> by_cases h3 : d = 62 <;> by_cases h4 : d = 61 <;> simp_all
theorem acv (w : World) : (Instr.index 107 (.agg #[.string ⟨#[60, 62]⟩, .string ⟨#[60, 61]⟩, .string ⟨#[62, 61]⟩]) (.int .i64 0)).run Tryz.prog w = .ok (.string ⟨#[60, 62]⟩) w := by simp [Instr.index, run_underlying Tryz.underlying107, go_sem]
theorem acw (w : World) : (Instr.index 107 (.agg #[.string ⟨#[60, 62]⟩, .string ⟨#[60, 61]⟩, .string ⟨#[62, 61]⟩]) (.int .i64 1)).run Tryz.prog w = .ok (.string ⟨#[60, 61]⟩) w := by simp [Instr.index, run_underlying Tryz.underlying107, go_sem]
theorem acx (w : World) : (Instr.index 107 (.agg #[.string ⟨#[60, 62]⟩, .string ⟨#[60, 61]⟩, .string ⟨#[62, 61]⟩]) (.int .i64 2)).run Tryz.prog w = .ok (.string ⟨#[62, 61]⟩) w := by simp [Instr.index, run_underlying Tryz.underlying107, go_sem]
theorem zq (g : Nat) (s : ByteArray) (i : Nat) (w : World) (hc : w.cell? ⟨g, 0, none⟩ = some (.string s)) (hi : i < s.size) (hs : s.size ≤ 4000) :
  Calls Tryz.prog 53 #[.pointer (some ⟨g, 0, none⟩), .int .i64 (i : Nat)] w fun e w' => e = .returned (.int .i64 ((i + aJ (s.data.toList.drop i) : Nat) : Int)) ∧ w = w' := by
 obtain ⟨K, hK⟩ := ae (i + aJ (s.data.toList.drop i))
 rw [hK]
 have hd := lG hi
 obtain ⟨r, hr⟩ := ae (s.data.toList.drop (i + 1))
 rw [hr] at hd
 rw [hd, aJ] at hK
 have hii : (0 : Int) ≤ (i : Int) := by omega
 have hii2 : (i : Int) < (s.size : Int) := by omega
 obtain ⟨b1, hb1⟩ := ae (dE s[i])
 obtain ⟨b2, hb2⟩ := ae (bI s[i])
 have HL := qh (show Calls Tryz.prog 78 #[.int .u8 (s[i].toNat : Nat)] w fun e w'' => e = .returned (.bool b1) ∧ w = w'' from by
  exact (nZ s[i] w).mono fun e w'' ⟨he, hw⟩ => ⟨he.trans (congrArg (fun x => Ending.returned (.bool x)) hb1), hw⟩)
 have HD := qh (show Calls Tryz.prog 80 #[.int .u8 (s[i].toNat : Nat)] w fun e w'' => e = .returned (.bool b2) ∧ w = w'' from by
  exact (jC s[i] w).mono fun e w'' ⟨he, hw⟩ => ⟨he.trans (congrArg (fun x => Ending.returned (.bool x)) hb2), hw⟩)
 rw [hb1, hb2] at hK
 cases b1
 rotate_left
 ·
  rw [if_pos rfl] at hK
  have HKK := qh (show ((i : Nat) : Int) + ((aK bK (s.data.toList.drop i) : Nat) : Int) = (K : Nat) by rw [hd, aK, IL hb1, if_pos rfl]; omega)
  clear hb1 hb2 hK hd hr
  go_enter Tryz.func53, Tryz.ntmps53
  go_wp2_with (first | (go_at_call 78; refine HL.out.mono ?_; rintro e w1 ⟨rfl, rfl⟩) | (go_at_call 80; refine HD.out.mono ?_; rintro e w1 ⟨rfl, rfl⟩) | (go_at_call 79; refine (O1 g s (i) _ hc (by omega) hs).mono ?_; rintro e w1 ⟨rfl, rfl⟩))
  go_ret
  exact ⟨ah HKK.out, rfl⟩
 rw [if_neg (by decide)] at hK
 cases b2
 rotate_left
 ·
  rw [if_pos rfl] at hK
  have HKK := qh (show ((i : Nat) : Int) + ((aK iH (s.data.toList.drop i) : Nat) : Int) = (K : Nat) by rw [hd, aK, show iH s[i] = true by unfold iH; rw [hb2]; rfl, if_pos rfl]; omega)
  clear hb1 hb2 hK hd hr
  go_enter Tryz.func53, Tryz.ntmps53
  go_wp2_with (first | (go_at_call 78; refine HL.out.mono ?_; rintro e w1 ⟨rfl, rfl⟩) | (go_at_call 80; refine HD.out.mono ?_; rintro e w1 ⟨rfl, rfl⟩) | (go_at_call 79; refine (KT g s (i) _ hc (by omega) hs).mono ?_; rintro e w1 ⟨rfl, rfl⟩))
  go_ret
  exact ⟨ah HKK.out, rfl⟩
 rw [if_neg (by decide)] at hK
 by_cases h64 : s[i] = 64
 ·
  rw [if_pos h64] at hK
  have y64 : ((s[i].toNat : Int) == 64) = true := by simp; have := (toNat_eq s[i] 64 (by decide)).1 h64; omega
  have HKK := qh (show ((i : Nat) : Int) + 1 + ((aK jY (s.data.toList.drop (i + 1)) : Nat) : Int) = (K : Nat) by rw [hr]; omega)
  clear hb1 hb2 hK hd hr h64
  go_enter Tryz.func53, Tryz.ntmps53
  go_wp2_with (first | (go_at_call 78; refine HL.out.mono ?_; rintro e w1 ⟨rfl, rfl⟩) | (go_at_call 80; refine HD.out.mono ?_; rintro e w1 ⟨rfl, rfl⟩) | (go_at_call 79; refine (O3 g s (i + 1) _ hc (by omega) hs).mono ?_; rintro e w1 ⟨rfl, rfl⟩))
  go_ret
  exact ⟨ah HKK.out, rfl⟩
 rw [if_neg h64] at hK
 by_cases h35 : s[i] = 35
 ·
  rw [if_pos h35] at hK
  have y35 : ((s[i].toNat : Int) == 35) = true := by simp; have := (toNat_eq s[i] 35 (by decide)).1 h35; omega
  have n64 : ((s[i].toNat : Int) == 64) = false := by simp; exact fun e => h64 ((toNat_eq s[i] 64 (by decide)).2 (by omega))
  have HKK := qh (show ((i : Nat) : Int) + 1 + ((aK bI (s.data.toList.drop (i + 1)) : Nat) : Int) = (K : Nat) by rw [hr]; omega)
  clear hb1 hb2 hK hd hr h64 h35
  go_enter Tryz.func53, Tryz.ntmps53
  go_wp2_with (first | (go_at_call 78; refine HL.out.mono ?_; rintro e w1 ⟨rfl, rfl⟩) | (go_at_call 80; refine HD.out.mono ?_; rintro e w1 ⟨rfl, rfl⟩) | (go_at_call 79; refine (SI g s (i + 1) _ hc (by omega) hs).mono ?_; rintro e w1 ⟨rfl, rfl⟩))
  go_ret
  exact ⟨ah HKK.out, rfl⟩
 rw [if_neg h35] at hK
 by_cases jZ : s[i] = 39
 ·
  rw [if_pos jZ] at hK
  have y39 : ((s[i].toNat : Int) == 39) = true := by simp; have := (toNat_eq s[i] 39 (by decide)).1 jZ; omega
  have n64 : ((s[i].toNat : Int) == 64) = false := by simp; exact fun e => h64 ((toNat_eq s[i] 64 (by decide)).2 (by omega))
  have n35 : ((s[i].toNat : Int) == 35) = false := by simp; exact fun e => h35 ((toNat_eq s[i] 35 (by decide)).2 (by omega))
  have HKK := qh (show ((i : Nat) : Int) + 1 + ((bU (s.data.toList.drop (i + 1)) : Nat) : Int) = (K : Nat) by rw [hr]; omega)
  clear hb1 hb2 hK hd hr h64 h35 jZ
  go_enter Tryz.func53, Tryz.ntmps53
  go_wp2_with (first | (go_at_call 78; refine HL.out.mono ?_; rintro e w1 ⟨rfl, rfl⟩) | (go_at_call 80; refine HD.out.mono ?_; rintro e w1 ⟨rfl, rfl⟩) | (go_at_call 83; refine (KU g s i _ hc hi hs).mono ?_; rintro e w1 ⟨rfl, rfl⟩))
  go_ret
  exact ⟨ah HKK.out, rfl⟩
 rw [if_neg jZ] at hK
 by_cases fJ : s[i] = 123
 ·
  rw [if_pos fJ] at hK
  have Z5 : ((s[i].toNat : Int) == 123) = true := by simp; have := (toNat_eq s[i] 123 (by decide)).1 fJ; omega
  have n64 : ((s[i].toNat : Int) == 64) = false := by simp; exact fun e => h64 ((toNat_eq s[i] 64 (by decide)).2 (by omega))
  have n35 : ((s[i].toNat : Int) == 35) = false := by simp; exact fun e => h35 ((toNat_eq s[i] 35 (by decide)).2 (by omega))
  have n39 : ((s[i].toNat : Int) == 39) = false := by simp; exact fun e => jZ ((toNat_eq s[i] 39 (by decide)).2 (by omega))
  have IU := qh (show ∀ w', Calls Tryz.prog 58 #[.string (s.extract i s.size), .int .u8 125] w' fun e w'' => e = .returned (.int .i64 (Lib.indexByte (s.data.toList.drop i) 125)) ∧ w'' = w' from fun w' => by
   have h := Tryz.strings_IndexByte (s.extract i s.size) 125 w'
   rwa [jQ] at h)
  have hix : Lib.indexByte (s.data.toList.drop i) 125 = if (125 : UInt8) ∈ r then ((fZ r : Nat) : Int) else -1 := by
   rw [hd, qA, fJ]
   have hm : ((125 : UInt8) ∈ (123 : UInt8) :: r) ↔ (125 : UInt8) ∈ r := by simp
   by_cases h : (125 : UInt8) ∈ r
   ·
    rw [if_pos (hm.2 h), if_pos h, fZ, if_neg (by decide)]; omega
   ·
    rw [if_neg (fun e => h (hm.1 e)), if_neg h]
  have hrl : r.length + (i + 1) = s.size := by rw [← hr, List.length_drop, Array.length_toList]; show s.size - (i + 1) + (i + 1) = _; omega
  have hbl := uB r
  by_cases hm : (125 : UInt8) ∈ r
  ·
   rw [if_pos hm] at hix
   rw [hix] at IU
   obtain ⟨N, hN⟩ := ae (fZ r)
   rw [hN] at IU hK hbl
   have HKK := qh (show ((i : Nat) : Int) + (N : Nat) + 1 = (K : Nat) by omega)
   have hNs : N ≤ 4000 := by omega
   clear hb1 hb2 hK hd hr h64 h35 jZ fJ hm hix hN hbl hrl
   go_enter Tryz.func53, Tryz.ntmps53
   go_wp2_with (first | (go_at_call 78; refine HL.out.mono ?_; rintro e w1 ⟨rfl, rfl⟩) | (go_at_call 80; refine HD.out.mono ?_; rintro e w1 ⟨rfl, rfl⟩) | (go_at_call 58; refine (IU.out _).mono ?_; rintro e w1 ⟨rfl, rfl⟩))
   go_ret
   exact ⟨ah HKK.out, rfl⟩
  ·
   rw [if_neg hm] at hix
   rw [hix] at IU
   have HKK := qh (show ((s.size : Nat) : Int) = (K : Nat) by rw [sF hm] at hK; omega)
   clear hb1 hb2 hK hd hr h64 h35 jZ fJ hm hix hbl hrl
   go_enter Tryz.func53, Tryz.ntmps53
   go_wp2_with (first | (go_at_call 78; refine HL.out.mono ?_; rintro e w1 ⟨rfl, rfl⟩) | (go_at_call 80; refine HD.out.mono ?_; rintro e w1 ⟨rfl, rfl⟩) | (go_at_call 58; refine (IU.out _).mono ?_; rintro e w1 ⟨rfl, rfl⟩))
   go_ret
   exact ⟨ah HKK.out, rfl⟩
 rw [if_neg fJ] at hK
 have n64 : ((s[i].toNat : Int) == 64) = false := by simp; exact fun e => h64 ((toNat_eq s[i] 64 (by decide)).2 (by omega))
 have n35 : ((s[i].toNat : Int) == 35) = false := by simp; exact fun e => h35 ((toNat_eq s[i] 35 (by decide)).2 (by omega))
 have n39 : ((s[i].toNat : Int) == 39) = false := by simp; exact fun e => jZ ((toNat_eq s[i] 39 (by decide)).2 (by omega))
 have n123 : ((s[i].toNat : Int) == 123) = false := by simp; exact fun e => fJ ((toNat_eq s[i] 123 (by decide)).2 (by omega))
 rw [Bg] at hK
 obtain ⟨q1, hq1⟩ := ae (Lib.hasPrefix (s[i] :: r) [60, 62])
 have Fa := qh (show ∀ w', Calls Tryz.prog 59 #[.string (s.extract i s.size), .string ⟨#[60, 62]⟩] w' fun e w'' => e = .returned (.bool q1) ∧ w'' = w' from fun w' => by
  have h := Tryz.strings_HasPrefix (s.extract i s.size) ⟨#[60, 62]⟩ w'
  rw [jQ, hd] at h
  rwa [hq1] at h)
 obtain ⟨q2, hq2⟩ := ae (Lib.hasPrefix (s[i] :: r) [60, 61])
 have Fb := qh (show ∀ w', Calls Tryz.prog 59 #[.string (s.extract i s.size), .string ⟨#[60, 61]⟩] w' fun e w'' => e = .returned (.bool q2) ∧ w'' = w' from fun w' => by
  have h := Tryz.strings_HasPrefix (s.extract i s.size) ⟨#[60, 61]⟩ w'
  rw [jQ, hd] at h
  rwa [hq2] at h)
 obtain ⟨q3, hq3⟩ := ae (Lib.hasPrefix (s[i] :: r) [62, 61])
 have Fe := qh (show ∀ w', Calls Tryz.prog 59 #[.string (s.extract i s.size), .string ⟨#[62, 61]⟩] w' fun e w'' => e = .returned (.bool q3) ∧ w'' = w' from fun w' => by
  have h := Tryz.strings_HasPrefix (s.extract i s.size) ⟨#[62, 61]⟩ w'
  rw [jQ, hd] at h
  rwa [hq3] at h)
 have X0 := acv
 have X1 := acw
 have X2 := acx
 rw [hq1, hq2, hq3] at hK
 clear hb1 hb2 hd hr h64 h35 jZ fJ hq1 hq2 hq3
 cases q1
 rotate_left
 ·
  have HKK := qh (show ((i : Nat) : Int) + 2 = (K : Nat) by have h := (show i + 2 = K by simpa using hK); omega)
  clear hK
  go_enter Tryz.func53, Tryz.ntmps53
  go_wp2_with (first | (go_at_call 78; refine HL.out.mono ?_; rintro e w1 ⟨rfl, rfl⟩) | (go_at_call 80; refine HD.out.mono ?_; rintro e w1 ⟨rfl, rfl⟩) | fail)
  refine wp_loop_rounds 4 ?_
  (rw [rounds_succ]; go_wp2_with (first | (go_at_call 59; refine (Fa.out _).mono ?_; rintro e w1 ⟨rfl, rfl⟩) | (go_at_call 59; refine (Fb.out _).mono ?_; rintro e w1 ⟨rfl, rfl⟩) | (go_at_call 59; refine (Fe.out _).mono ?_; rintro e w1 ⟨rfl, rfl⟩)))
  go_ret
  exact ⟨ah HKK.out, rfl⟩
 cases q2
 rotate_left
 ·
  have HKK := qh (show ((i : Nat) : Int) + 2 = (K : Nat) by have h := (show i + 2 = K by simpa using hK); omega)
  clear hK
  go_enter Tryz.func53, Tryz.ntmps53
  go_wp2_with (first | (go_at_call 78; refine HL.out.mono ?_; rintro e w1 ⟨rfl, rfl⟩) | (go_at_call 80; refine HD.out.mono ?_; rintro e w1 ⟨rfl, rfl⟩) | fail)
  refine wp_loop_rounds 4 ?_
  (rw [rounds_succ]; go_wp2_with (first | (go_at_call 59; refine (Fa.out _).mono ?_; rintro e w1 ⟨rfl, rfl⟩) | (go_at_call 59; refine (Fb.out _).mono ?_; rintro e w1 ⟨rfl, rfl⟩) | (go_at_call 59; refine (Fe.out _).mono ?_; rintro e w1 ⟨rfl, rfl⟩)))
  (rw [rounds_succ]; go_wp2_with (first | (go_at_call 59; refine (Fa.out _).mono ?_; rintro e w1 ⟨rfl, rfl⟩) | (go_at_call 59; refine (Fb.out _).mono ?_; rintro e w1 ⟨rfl, rfl⟩) | (go_at_call 59; refine (Fe.out _).mono ?_; rintro e w1 ⟨rfl, rfl⟩)))
  go_ret
  exact ⟨ah HKK.out, rfl⟩
 cases q3
 rotate_left
 ·
  have HKK := qh (show ((i : Nat) : Int) + 2 = (K : Nat) by have h := (show i + 2 = K by simpa using hK); omega)
  clear hK
  go_enter Tryz.func53, Tryz.ntmps53
  go_wp2_with (first | (go_at_call 78; refine HL.out.mono ?_; rintro e w1 ⟨rfl, rfl⟩) | (go_at_call 80; refine HD.out.mono ?_; rintro e w1 ⟨rfl, rfl⟩) | fail)
  refine wp_loop_rounds 4 ?_
  (rw [rounds_succ]; go_wp2_with (first | (go_at_call 59; refine (Fa.out _).mono ?_; rintro e w1 ⟨rfl, rfl⟩) | (go_at_call 59; refine (Fb.out _).mono ?_; rintro e w1 ⟨rfl, rfl⟩) | (go_at_call 59; refine (Fe.out _).mono ?_; rintro e w1 ⟨rfl, rfl⟩)))
  (rw [rounds_succ]; go_wp2_with (first | (go_at_call 59; refine (Fa.out _).mono ?_; rintro e w1 ⟨rfl, rfl⟩) | (go_at_call 59; refine (Fb.out _).mono ?_; rintro e w1 ⟨rfl, rfl⟩) | (go_at_call 59; refine (Fe.out _).mono ?_; rintro e w1 ⟨rfl, rfl⟩)))
  (rw [rounds_succ]; go_wp2_with (first | (go_at_call 59; refine (Fa.out _).mono ?_; rintro e w1 ⟨rfl, rfl⟩) | (go_at_call 59; refine (Fb.out _).mono ?_; rintro e w1 ⟨rfl, rfl⟩) | (go_at_call 59; refine (Fe.out _).mono ?_; rintro e w1 ⟨rfl, rfl⟩)))
  go_ret
  exact ⟨ah HKK.out, rfl⟩
 have HKK := qh (show ((i : Nat) : Int) + 1 = (K : Nat) by have h := (show i + 1 = K by simpa using hK); omega)
 clear hK
 go_enter Tryz.func53, Tryz.ntmps53
 go_wp2_with (first | (go_at_call 78; refine HL.out.mono ?_; rintro e w1 ⟨rfl, rfl⟩) | (go_at_call 80; refine HD.out.mono ?_; rintro e w1 ⟨rfl, rfl⟩) | fail)
 refine wp_loop_rounds 4 ?_
 (rw [rounds_succ]; go_wp2_with (first | (go_at_call 59; refine (Fa.out _).mono ?_; rintro e w1 ⟨rfl, rfl⟩) | (go_at_call 59; refine (Fb.out _).mono ?_; rintro e w1 ⟨rfl, rfl⟩) | (go_at_call 59; refine (Fe.out _).mono ?_; rintro e w1 ⟨rfl, rfl⟩)))
 (rw [rounds_succ]; go_wp2_with (first | (go_at_call 59; refine (Fa.out _).mono ?_; rintro e w1 ⟨rfl, rfl⟩) | (go_at_call 59; refine (Fb.out _).mono ?_; rintro e w1 ⟨rfl, rfl⟩) | (go_at_call 59; refine (Fe.out _).mono ?_; rintro e w1 ⟨rfl, rfl⟩)))
 (rw [rounds_succ]; go_wp2_with (first | (go_at_call 59; refine (Fa.out _).mono ?_; rintro e w1 ⟨rfl, rfl⟩) | (go_at_call 59; refine (Fb.out _).mono ?_; rintro e w1 ⟨rfl, rfl⟩) | (go_at_call 59; refine (Fe.out _).mono ?_; rintro e w1 ⟨rfl, rfl⟩)))
 (rw [rounds_succ]; go_wp2_with (first | (go_at_call 59; refine (Fa.out _).mono ?_; rintro e w1 ⟨rfl, rfl⟩) | (go_at_call 59; refine (Fb.out _).mono ?_; rintro e w1 ⟨rfl, rfl⟩) | (go_at_call 59; refine (Fe.out _).mono ?_; rintro e w1 ⟨rfl, rfl⟩)))
 go_ret
 exact ⟨ah HKK.out, rfl⟩
end Go.Proofs.YtobanldeicclmaaGreatDoor
