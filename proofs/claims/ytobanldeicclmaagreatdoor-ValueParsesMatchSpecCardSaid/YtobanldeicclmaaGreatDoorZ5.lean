/- Lemmas for the claim: walks and plain laws. -/
import Derived.Test.YtobanldeicclmaaGreatDoorZ4
import Derived.Test.YtobanldeicclmaaGreatDoorZ2
import Derived.Test.YtobanldeicclmaaGreatDoorZ3
import Derived.Test.YtobanldeicclmaaGreatDoorZ1
set_option maxHeartbeats 4000000
set_option maxRecDepth 100000
namespace Go.Proofs.YtobanldeicclmaaGreatDoor
open Go.RowKit
theorem IK (n : Int) (w : World) (h1 : -25567 ≤ n) (h2 : n ≤ 84005) :
  Calls Tryz.prog 217 #[.int .i64 n] w fun e w' => e = .returned (.agg #[.int .i64 6, .int .i64 n, .string ⟨#[]⟩, .slice none 0 0]) ∧ Below w.heap.size w w' := by
 have b1 : bF n (-25567) 84005 = false := nC (by omega) (by omega)
 go_enter Tryz.func217, Tryz.ntmps217
 go_wp2_with (go_at_call 63; refine (aW _ _ _ _).mono ?_; rintro e w' ⟨rfl, rfl⟩)
 refine bodyPost_ret (v := .agg #[.int .i64 6, .int .i64 n, .string ⟨#[]⟩, .slice none 0 0]) (by simp [results, Tryz.results217, go_sem]) rfl ⟨rfl, by first | exact (Below.refl _ _).alloc (Nat.le_refl _) _ | exact (((Below.refl _ _).alloc (Nat.le_refl _) _).setCell (Nat.le_refl _) _)⟩
theorem Gj (n : Int) (w : World) (h : n < -25567 ∨ 84005 < n) :
  Calls Tryz.prog 217 #[.int .i64 n] w fun e w' => e = .returned (.agg #[.int .i64 0, .int .i64 0, .string ⟨#[]⟩, .slice none 0 0]) ∧ Below w.heap.size w w' := by
 have b1 : bF n (-25567) 84005 = true := oQ (by omega)
 clear h
 go_enter Tryz.func217, Tryz.ntmps217
 go_wp2_with (go_at_call 63; refine (aW _ _ _ _).mono ?_; rintro e w' ⟨rfl, rfl⟩)
 refine bodyPost_ret (v := .agg #[.int .i64 0, .int .i64 0, .string ⟨#[]⟩, .slice none 0 0]) (by simp [results, Tryz.results217, go_sem]) rfl ⟨rfl, by first | exact (Below.refl _ _).alloc (Nat.le_refl _) _ | exact (((Below.refl _ _).alloc (Nat.le_refl _) _).setCell (Nat.le_refl _) _)⟩
def dk (y m d : Int) : Int := if Cal.jq y m d = true then 6 else 0
def dn (y m d : Int) : Int := if Cal.jq y m d = true then Cal.num y m d else 0
theorem yA {y m d : Int} (h : bF y 1800 2300 = true ∨ bF m 1 12 = true ∨ bF d 1 (Cal.zg y m) = true) : Cal.jq y m d = false := by
 rw [Bool.eq_false_iff]
 intro e
 rw [Cal.nD] at e
 simp only [bF, Bool.or_eq_true, decide_eq_true_eq] at h
 omega
theorem Su (y m d : Int) (w : World) :
  Calls Tryz.prog 203 #[.int .i64 y, .int .i64 m, .int .i64 d] w fun e w' => e = .returned (.agg #[.int .i64 (dk y m d), .int .i64 (dn y m d), .string ⟨#[]⟩, .slice none 0 0]) ∧ Below w.heap.size w w' := by
 have stop : Cal.jq y m d = false → dk y m d = 0 ∧ dn y m d = 0 := fun h => by simp [dk, dn, h]
 by_cases e1 : bF y 1800 2300 = true
 ·
  obtain ⟨z1, z2⟩ := stop (yA (.inl e1))
  rw [z1, z2]
  clear z1 z2 stop
  go_enter Tryz.func203, Tryz.ntmps203
  go_wp2_with (go_at_call 63; refine (aW _ _ _ _).mono ?_; rintro e w' ⟨rfl, rfl⟩)
  refine bodyPost_ret (v := .agg #[.int .i64 0, .int .i64 0, .string ⟨#[]⟩, .slice none 0 0]) (by simp [results, Tryz.results203, go_sem]) rfl ⟨rfl, by first | exact (Below.refl _ _).alloc (Nat.le_refl _) _ | exact (((Below.refl _ _).alloc (Nat.le_refl _) _).setCell (Nat.le_refl _) _)⟩
 have e1' : bF y 1800 2300 = false := by simpa using e1
 clear e1
 by_cases e2 : bF m 1 12 = true
 ·
  obtain ⟨z1, z2⟩ := stop (yA (.inr (.inl e2)))
  rw [z1, z2]
  clear z1 z2 stop
  go_enter Tryz.func203, Tryz.ntmps203
  go_wp2_with (go_at_call 63; refine (aW _ _ _ _).mono ?_; rintro e w' ⟨rfl, rfl⟩)
  refine bodyPost_ret (v := .agg #[.int .i64 0, .int .i64 0, .string ⟨#[]⟩, .slice none 0 0]) (by simp [results, Tryz.results203, go_sem]) rfl ⟨rfl, by first | exact (Below.refl _ _).alloc (Nat.le_refl _) _ | exact (((Below.refl _ _).alloc (Nat.le_refl _) _).setCell (Nat.le_refl _) _)⟩
 have e2' : bF m 1 12 = false := by simpa using e2
 clear e2
 have hy : 1800 ≤ y ∧ y ≤ 2300 := by simp only [bF, Bool.or_eq_false_iff, decide_eq_false_iff_not] at e1'; omega
 have hm : 1 ≤ m ∧ m ≤ 12 := by simp only [bF, Bool.or_eq_false_iff, decide_eq_false_iff_not] at e2'; omega
 obtain ⟨y1, y2⟩ := hy
 obtain ⟨m1, m2⟩ := hm
 by_cases e3 : bF d 1 (Cal.zg y m) = true
 ·
  obtain ⟨z1, z2⟩ := stop (yA (.inr (.inr e3)))
  rw [z1, z2]
  clear z1 z2 stop
  go_enter Tryz.func203, Tryz.ntmps203
  go_wp2_with (first | (go_at_call 63; refine (aW _ _ _ _).mono ?_; rintro e w' ⟨rfl, rfl⟩) | (go_at_call 109; refine (rZ _ _ _ (by omega) (by omega)).mono ?_; rintro e w' ⟨rfl, rfl⟩))
  refine bodyPost_ret (v := .agg #[.int .i64 0, .int .i64 0, .string ⟨#[]⟩, .slice none 0 0]) (by simp [results, Tryz.results203, go_sem]) rfl ⟨rfl, by first | exact (Below.refl _ _).alloc (Nat.le_refl _) _ | exact (((Below.refl _ _).alloc (Nat.le_refl _) _).setCell (Nat.le_refl _) _)⟩
 have e3' : bF d 1 (Cal.zg y m) = false := by simpa using e3
 clear e3
 have hd : 1 ≤ d ∧ d ≤ Cal.zg y m := by simp only [bF, Bool.or_eq_false_iff, decide_eq_false_iff_not] at e3'; omega
 have hd2 := Cal.wQ y m
 obtain ⟨d1, d2⟩ := hd
 have d3 : d ≤ 40 := by omega
 have hnr := Cal.Oz m1 m2 d1 d2
 have hok : Cal.jq y m d = decide (1900 ≤ y ∧ y ≤ 2199) := by
  rw [Bool.eq_iff_iff, Cal.nD]
  simp only [decide_eq_true_eq]
  constructor
  ·
   exact fun h => h.1
  ·
   exact fun h => ⟨h, ⟨m1, m2⟩, d1, d2⟩
 clear hd2 stop
 by_cases hr : 1900 ≤ y ∧ y ≤ 2199
 ·
  have z1 : dk y m d = 6 := by simp [dk, hok, hr]
  have z2 : dn y m d = Cal.num y m d := by simp [dn, hok, hr]
  obtain ⟨r1, r2⟩ := hnr.2 hr
  rw [z1, z2]
  clear z1 z2 hok hnr hr
  go_enter Tryz.func203, Tryz.ntmps203
  go_wp2_with (first | (go_at_call 63; refine (aW _ _ _ _).mono ?_; rintro e w' ⟨rfl, rfl⟩) | (go_at_call 109; refine (rZ _ _ _ (by omega) (by omega)).mono ?_; rintro e w' ⟨rfl, rfl⟩) | (go_at_call 70; refine (nK _ _ _ _ (by omega) (by omega) (by omega) (by omega) (by omega) (by omega)).mono ?_; rintro e w' ⟨rfl, rfl⟩))
  refine (IK _ _ r1 r2).mono ?_
  rintro e w1 ⟨rfl, hb1⟩
  obtain ⟨hc, hf⟩ := Xu hb1
  have hz : w.heap.size + 1 ≤ w1.heap.size := by have := hb1.size; simpa using this
  have hbw : Below w.heap.size w w1 := ((Below.refl _ _).alloc (Nat.le_refl _) _).trans (hb1.mono (by simp))
  go_wp2
  refine bodyPost_ret (v := .agg #[.int .i64 6, .int .i64 (Cal.num y m d), .string ⟨#[]⟩, .slice none 0 0]) (by simp [results, Tryz.results203, go_sem, hc]) rfl ⟨rfl, by repeat' (first | exact hbw | exact Nat.le_refl _ | apply Below.setCell)⟩
 ·
  have z1 : dk y m d = 0 := by simp [dk, hok, hr]
  have z2 : dn y m d = 0 := by simp [dn, hok, hr]
  have r1 : Cal.num y m d < -25567 ∨ 84005 < Cal.num y m d := by
   have := mt hnr.1 hr
   omega
  rw [z1, z2]
  clear z1 z2 hok hnr hr
  have R1 := qh r1
  clear r1
  go_enter Tryz.func203, Tryz.ntmps203
  go_wp2_with (first | (go_at_call 63; refine (aW _ _ _ _).mono ?_; rintro e w' ⟨rfl, rfl⟩) | (go_at_call 109; refine (rZ _ _ _ (by omega) (by omega)).mono ?_; rintro e w' ⟨rfl, rfl⟩) | (go_at_call 70; refine (nK _ _ _ _ (by omega) (by omega) (by omega) (by omega) (by omega) (by omega)).mono ?_; rintro e w' ⟨rfl, rfl⟩))
  refine (Gj _ _ R1.out).mono ?_
  rintro e w1 ⟨rfl, hb1⟩
  obtain ⟨hc, hf⟩ := Xu hb1
  have hz : w.heap.size + 1 ≤ w1.heap.size := by have := hb1.size; simpa using this
  have hbw : Below w.heap.size w w1 := ((Below.refl _ _).alloc (Nat.le_refl _) _).trans (hb1.mono (by simp))
  go_wp2
  refine bodyPost_ret (v := .agg #[.int .i64 0, .int .i64 0, .string ⟨#[]⟩, .slice none 0 0]) (by simp [results, Tryz.results203, go_sem, hc]) rfl ⟨rfl, by repeat' (first | exact hbw | exact Nat.le_refl _ | apply Below.setCell)⟩
theorem OT (y m d : Int) (w : World) :
  Calls Tryz.prog 197 #[.int .i64 y, .int .i64 m, .int .i64 d] w fun e w' => e = .returned (.agg #[.int .i64 (dk y m d), .int .i64 (dn y m d), .string ⟨#[]⟩, .slice none 0 0]) ∧ Below w.heap.size w w' := by
 have stop : Cal.jq y m d = false → dk y m d = 0 ∧ dn y m d = 0 := fun h => by simp [dk, dn, h]
 have no : bF y 1900 2199 = true ∨ bF m 1 12 = true ∨ bF d 1 (Cal.zg y m) = true → Cal.jq y m d = false := by
  intro h
  rw [Bool.eq_false_iff]
  intro e
  rw [Cal.nD] at e
  simp only [bF, Bool.or_eq_true, decide_eq_true_eq] at h
  omega
 by_cases e1 : bF y 1900 2199 = true
 ·
  obtain ⟨z1, z2⟩ := stop (no (.inl e1))
  rw [z1, z2]
  clear z1 z2 stop no
  go_enter Tryz.func197, Tryz.ntmps197
  go_wp2_with (go_at_call 91; refine (bC _ _ _ _).mono ?_; rintro e w' ⟨rfl, rfl⟩)
  refine bodyPost_ret (v := .agg #[.int .i64 0, .int .i64 0, .string ⟨#[]⟩, .slice none 0 0]) (by simp [results, Tryz.results197, go_sem]) rfl ⟨rfl, by first | exact (Below.refl _ _).alloc (Nat.le_refl _) _ | exact (((Below.refl _ _).alloc (Nat.le_refl _) _).setCell (Nat.le_refl _) _)⟩
 have e1' : bF y 1900 2199 = false := by simpa using e1
 clear e1
 by_cases e2 : bF m 1 12 = true
 ·
  obtain ⟨z1, z2⟩ := stop (no (.inr (.inl e2)))
  rw [z1, z2]
  clear z1 z2 stop no
  go_enter Tryz.func197, Tryz.ntmps197
  go_wp2_with (go_at_call 91; refine (bC _ _ _ _).mono ?_; rintro e w' ⟨rfl, rfl⟩)
  refine bodyPost_ret (v := .agg #[.int .i64 0, .int .i64 0, .string ⟨#[]⟩, .slice none 0 0]) (by simp [results, Tryz.results197, go_sem]) rfl ⟨rfl, by first | exact (Below.refl _ _).alloc (Nat.le_refl _) _ | exact (((Below.refl _ _).alloc (Nat.le_refl _) _).setCell (Nat.le_refl _) _)⟩
 have e2' : bF m 1 12 = false := by simpa using e2
 clear e2
 have hy : 1900 ≤ y ∧ y ≤ 2199 := by simp only [bF, Bool.or_eq_false_iff, decide_eq_false_iff_not] at e1'; omega
 have hm : 1 ≤ m ∧ m ≤ 12 := by simp only [bF, Bool.or_eq_false_iff, decide_eq_false_iff_not] at e2'; omega
 obtain ⟨y1, y2⟩ := hy
 obtain ⟨m1, m2⟩ := hm
 by_cases e3 : bF d 1 (Cal.zg y m) = true
 ·
  obtain ⟨z1, z2⟩ := stop (no (.inr (.inr e3)))
  rw [z1, z2]
  clear z1 z2 stop no
  go_enter Tryz.func197, Tryz.ntmps197
  go_wp2_with (first | (go_at_call 91; refine (bC _ _ _ _).mono ?_; rintro e w' ⟨rfl, rfl⟩) | (go_at_call 213; refine (lq _ _ _ (by omega) (by omega)).mono ?_; rintro e w' ⟨rfl, rfl⟩))
  refine bodyPost_ret (v := .agg #[.int .i64 0, .int .i64 0, .string ⟨#[]⟩, .slice none 0 0]) (by simp [results, Tryz.results197, go_sem]) rfl ⟨rfl, by first | exact (Below.refl _ _).alloc (Nat.le_refl _) _ | exact (((Below.refl _ _).alloc (Nat.le_refl _) _).setCell (Nat.le_refl _) _)⟩
 have e3' : bF d 1 (Cal.zg y m) = false := by simpa using e3
 clear e3
 have hd : 1 ≤ d ∧ d ≤ Cal.zg y m := by simp only [bF, Bool.or_eq_false_iff, decide_eq_false_iff_not] at e3'; omega
 have hd2 := Cal.wQ y m
 obtain ⟨d1, d2⟩ := hd
 have d3 : d ≤ 40 := by omega
 have hok : Cal.jq y m d = true := by rw [Cal.nD]; exact ⟨⟨y1, y2⟩, ⟨m1, m2⟩, d1, d2⟩
 have z1 : dk y m d = 6 := by simp [dk, hok]
 have z2 : dn y m d = Cal.num y m d := by simp [dn, hok]
 rw [z1, z2]
 clear z1 z2 hok stop no hd2 d2
 go_enter Tryz.func197, Tryz.ntmps197
 go_wp2_with (first | (go_at_call 91; refine (bC _ _ _ _).mono ?_; rintro e w' ⟨rfl, rfl⟩) | (go_at_call 213; refine (lq _ _ _ (by omega) (by omega)).mono ?_; rintro e w' ⟨rfl, rfl⟩))
 clear e1' e2' e3'
 go_loop [8, 7] (fun k s => ∃ j : Int, 1 ≤ j ∧ j ≤ m ∧ k = .int .i64 j ∧ s = .int .i64 (d - 1 + Cal.wP y j)) (fun k _ => (m - intOf k).toNat)
 case atStart => exact ⟨1, by omega, by omega, rfl, by rw [Cal.rP]; simp⟩
 case round =>
  obtain ⟨j, hj1, hj2, rfl, rfl⟩ := hrel
  have cb := Cal.Ac y j
  have db := Cal.wQ y j
  obtain ⟨cb1, cb2⟩ := cb
  obtain ⟨db1, db2⟩ := db
  by_cases hlt : j < m
  ·
   have CS := qh (Cal.kG y j hj1 (by omega))
   go_wp2_with (go_at_call 213; refine (lq _ _ _ (by omega) (by omega)).mono ?_; rintro e w' ⟨rfl, rfl⟩)
   go_round
   case rel => exact ⟨j + 1, by omega, by omega, rfl, by rw [CS.out, Int.add_assoc]⟩
   case measure => simp [intOf]; omega
  obtain rfl : j = m := by omega
  obtain ⟨C, hC, C1, C2⟩ : ∃ C, Cal.wP y j = C ∧ 0 ≤ C ∧ C ≤ 366 := ⟨_, rfl, cb1, cb2⟩
  rw [hC]
  have HC := qh hC
  clear hC cb1 cb2
  go_wp2
  go_loop [9, 7] (fun k s => ∃ j : Int, 1970 ≤ j ∧ (j ≤ y ∨ j = 1970) ∧ k = .int .i64 j ∧ s = .int .i64 (d - 1 + C + Cal.base j)) (fun k _ => (y - intOf k).toNat)
  case atStart => exact ⟨1970, by omega, .inr rfl, rfl, by rw [Cal.EH]; simp⟩
  case round =>
   obtain ⟨j2, hj3, hj4, rfl, rfl⟩ := hrel
   have bb := Cal.vk j2 (by omega) (by omega)
   obtain ⟨bb1, bb2⟩ := bb
   have yb := Cal.KI j2
   obtain ⟨yb1, yb2⟩ := yb
   by_cases hlt2 : j2 < y
   ·
    have BS := qh (Cal.oU j2)
    go_wp2_with (go_at_call 214; refine (oL _ _ (by omega) (by omega)).mono ?_; rintro e w' ⟨rfl, rfl⟩)
    go_round
    case rel => exact ⟨j2 + 1, by omega, by omega, rfl, by rw [BS.out, Int.add_assoc]⟩
    case measure => simp [intOf]; omega
   have HB := qh (show 1970 ≤ y → j2 = y by omega)
   have HB2 := qh (show y < 1970 → j2 = 1970 by omega)
   go_wp2
   go_loop [10, 7] (fun k s => ∃ j : Int, y ≤ j ∧ (j ≤ 1970 ∨ j = y) ∧ k = .int .i64 j ∧ s = .int .i64 (d - 1 + C + Cal.base j2 - (Cal.base j - Cal.base y))) (fun k _ => (1970 - intOf k).toNat)
   case atStart => exact ⟨y, by omega, .inr rfl, rfl, by simp⟩
   case round =>
    obtain ⟨j3, hj5, hj6, rfl, rfl⟩ := hrel
    have bb := Cal.vk j3 (by omega) (by omega)
    obtain ⟨bb3, bb4⟩ := bb
    have bb := Cal.vk y (by omega) (by omega)
    obtain ⟨bb5, bb6⟩ := bb
    have yb := Cal.KI j3
    obtain ⟨yb3, yb4⟩ := yb
    by_cases hlt3 : j3 < 1970
    ·
     have BS := qh (Cal.oU j3)
     go_wp2_with (go_at_call 214; refine (oL _ _ (by omega) (by omega)).mono ?_; rintro e w' ⟨rfl, rfl⟩)
     go_round
     case rel => exact ⟨j3 + 1, by omega, by omega, rfl, by rw [BS.out, show d - 1 + C + Cal.base j2 - (Cal.base j3 + Cal.yd j3 - Cal.base y) = d - 1 + C + Cal.base j2 - (Cal.base j3 - Cal.base y) - Cal.yd j3 from by omega]⟩
     case measure => simp [intOf]; omega
    have HF : Hid (d - 1 + C + Cal.base j2 - (Cal.base j3 - Cal.base y) = Cal.num y j d) := by
     have h1 := HB.out
     have h2 := HB2.out
     have h3 := HC.out
     show _ = _
     unfold Cal.num
     rw [h3]
     by_cases h : 1970 ≤ y
     ·
      rw [h1 h, show j3 = y by omega]; omega
     ·
      rw [h2 (by omega), show j3 = 1970 by omega, Cal.EH]; omega
    go_wp2
    refine bodyPost_ret (v := .agg #[.int .i64 6, .int .i64 (d - 1 + C + Cal.base j2 - (Cal.base j3 - Cal.base y)), .string ⟨#[]⟩, .slice none 0 0]) (by simp [results, Tryz.results197, go_sem]) rfl ⟨by rw [HF.out], by first | exact (Below.refl _ _).alloc (Nat.le_refl _) _ | exact (((Below.refl _ _).alloc (Nat.le_refl _) _).setCell (Nat.le_refl _) _)⟩
end Go.Proofs.YtobanldeicclmaaGreatDoor
namespace Go.Proofs.YtobanldeicclmaaGreatDoor
open Go.RowKit Dig Vtx
theorem mP (s o n : ByteArray) (w : World) (hs : s.size ≤ 2000000) (h1 : 1 ≤ o.size) (hn : n.size ≤ 2) (hm : Mx w) :
  Calls Tryz.prog 43 #[.string s, .string o, .string n] w fun e w' => (∃ t : ByteArray, e = .returned (.string t) ∧ t.data.toList = Lib.replaceAll s.data.toList o.data.toList n.data.toList) ∧ Below w.heap.size w w' := by
 obtain ⟨m, hm⟩ := hm
 have hc := Lib.countB_le o h1 s.size s (Nat.le_refl _)
 have : Lib.countB s o * n.size ≤ s.size * 2 := Nat.mul_le_mul hc hn
 exact (Tryz.strings_ReplaceAll s o n m w (by omega) hm h1 (by omega)).mono fun _ _ ⟨he, hb⟩ => ⟨⟨_, he, rfl⟩, hb⟩
theorem NJ (s : List UInt8) : (Lib.replaceAll s [39] [39, 39]).length ≤ 2 * s.length := by
 rw [jK (by simp), uz]
 induction s with
 | nil => simp [subst1]
 | cons b r ih =>
  have e : subst1 39 [39, 39] (b :: r) = (if b = 39 then [39, 39] else [b]) ++ subst1 39 [39, 39] r := by simp [subst1]
  rw [e, List.length_append, List.length_cons]
  split <;> simp <;> omega
theorem Sv (k n : Int) (s : ByteArray) (l : List Int) (S : List UInt8) (A : Option Addr) (c B1 : Nat) (w : World) (hS : s.data.toList = S) (hq : KL k n S l) (hl : l.length ≤ 1000) (hs : s.size ≤ 1000)
  (hx : Reads w B1 1 A l.length (dS .i64 l)) (hB1 : B1 ≤ w.heap.size) (htab : Tab w) (hm : Mx w) :
  Calls Tryz.prog 21 #[.agg #[.int .i64 k, .int .i64 n, .string s, .slice A l.length c]] w fun e w' => (∃ t : ByteArray, e = .returned (.string t) ∧ t.data.toList = showT k n S l) ∧ Below w.heap.size w w' := by
 have HT := qh htab
 have HM := qh hm
 have HX := qh (hx.more hB1)
 have HS := qh hS
 clear htab hm hx hS hB1
 have hba : ∀ o : Obj, Below w.heap.size w (w.alloc o) := fun o => (Below.refl _ _).alloc (Nat.le_refl _) _
 have DU := qh hba
 clear hba
 cases hq with
 | none_ =>
  go_enter Tryz.func21, Tryz.ntmps21
  go_wp2
  go_ret
  exact ⟨⟨_, rfl, rfl⟩, DU.out _⟩
 | word h1 h2 =>
  have i1 : ∀ w, (Instr.index 72 (.agg #[.string ⟨#[]⟩, .string ⟨#[100, 111, 110, 116, 107, 110, 111, 119]⟩, .string ⟨#[114, 101, 102, 117, 115, 101, 100]⟩, .string ⟨#[110, 111, 97, 110, 115, 119, 101, 114]⟩]) (.int .i64 1)).run Tryz.prog w = .ok (.string ⟨#[100, 111, 110, 116, 107, 110, 111, 119]⟩) w := fun _ => by kernel_rfl
  have i2 : ∀ w, (Instr.index 72 (.agg #[.string ⟨#[]⟩, .string ⟨#[100, 111, 110, 116, 107, 110, 111, 119]⟩, .string ⟨#[114, 101, 102, 117, 115, 101, 100]⟩, .string ⟨#[110, 111, 97, 110, 115, 119, 101, 114]⟩]) (.int .i64 2)).run Tryz.prog w = .ok (.string ⟨#[114, 101, 102, 117, 115, 101, 100]⟩) w := fun _ => by kernel_rfl
  have i3 : ∀ w, (Instr.index 72 (.agg #[.string ⟨#[]⟩, .string ⟨#[100, 111, 110, 116, 107, 110, 111, 119]⟩, .string ⟨#[114, 101, 102, 117, 115, 101, 100]⟩, .string ⟨#[110, 111, 97, 110, 115, 119, 101, 114]⟩]) (.int .i64 3)).run Tryz.prog w = .ok (.string ⟨#[110, 111, 97, 110, 115, 119, 101, 114]⟩) w := fun _ => by kernel_rfl
  obtain rfl | rfl | rfl : n = 1 ∨ n = 2 ∨ n = 3 := by omega
  all_goals
   go_enter Tryz.func21, Tryz.ntmps21
   go_wp2
   go_ret
   exact ⟨⟨_, rfl, rfl⟩, DU.out _⟩
 | num h1 h2 =>
  have HR := qh (fun w' => AA n w' h1 h2)
  go_enter Tryz.func21, Tryz.ntmps21
  go_wp2_with fail
  refine (HR.out _ (HT.out.below (DU.out _))).mono ?_
  rintro e w1 ⟨⟨t, rfl, ht⟩, hb⟩
  have hbw := (DU.out _).trans (hb.mono (DU.out _).size)
  have jf := qh ht
  clear ht hb
  go_wp2
  go_ret
  exact ⟨⟨_, rfl, jf.out⟩, hbw⟩
 | text S =>
  go_enter Tryz.func21, Tryz.ntmps21
  go_wp2_with fail
  refine (mP s ⟨#[39]⟩ ⟨#[39, 39]⟩ _ (by omega) (Nat.le_refl 1) (Nat.le_refl 2) (HM.out.below (DU.out _))).mono ?_
  rintro e w1 ⟨⟨t, rfl, ht⟩, hb⟩
  rw [HS.out] at ht
  have hbw := (DU.out _).trans (hb.mono (DU.out _).size)
  have jf := qh (show t.data.toList = Lib.replaceAll S [39] [39, 39] from ht)
  have htl : t.size ≤ 2000 := by
   rw [fB jf.out]
   have h1 := NJ S
   have h2 : S.length = s.size := by rw [← HS.out]; rfl
   omega
  clear ht hb
  go_wp2
  go_ret
  exact ⟨⟨_, rfl, by rw [aC, aC, jf.out]; rfl⟩, hbw⟩
 | code h1 h2 =>
  go_enter Tryz.func21, Tryz.ntmps21
  go_wp2_with fail
  refine (mO n _ (by omega) (by omega) (HT.out.below (DU.out _))).mono ?_
  rintro e w1 ⟨⟨t, rfl, ht⟩, hb⟩
  have hbw := (DU.out _).trans (hb.mono (DU.out _).size)
  have jf := qh ht
  have htl : t.size ≤ 20 := by
   rw [fB ht]
   obtain ⟨m, rfl⟩ : ∃ m : Nat, n = m := ⟨n.toNat, by omega⟩
   rw [jd]
   have := cO 2 m (by omega)
   omega
  clear ht hb
  go_wp2
  go_ret
  exact ⟨⟨_, rfl, by rw [aC, jf.out]; rfl⟩, hbw⟩
 | set h =>
  have HC := qh h
  clear h
  go_enter Tryz.func21, Tryz.ntmps21
  go_wp2_with fail
  refine (IJ A l c w.heap.size _ hl HC.out (HX.out.below (DU.out _)) (DU.out _).size (HT.out.below (DU.out _))).mono ?_
  rintro e w1 ⟨⟨t, rfl, ht⟩, hb⟩
  have hbw := (DU.out _).trans (hb.mono (DU.out _).size)
  have jf := qh ht
  clear ht hb
  go_wp2
  go_ret
  exact ⟨⟨_, rfl, jf.out⟩, hbw⟩
 | day h1 h2 =>
  obtain ⟨y, m, d, ey, em, ed, hy, hmm, hd, hok, hn⟩ := qV h1 h2
  have HY := qh (And.intro ey (And.intro em ed))
  have HL := qh (And.intro (jG (w := 4) (n := y) (cO 3 y hy)) (And.intro (jG (w := 2) (n := m) (cO 1 m hmm)) (jG (w := 2) (n := d) (cO 1 d hd))))
  have HCV := qh (fun w' => OO n w' h1 h2)
  clear ey em ed hok hn
  go_enter Tryz.func21, Tryz.ntmps21
  go_wp2_with fail
  refine (HCV.out _).mono ?_
  rw [HY.out.1, HY.out.2.1, HY.out.2.2]
  rintro e w1 ⟨rfl, rfl⟩
  have hb0 := DU.out (.cells #[.int .i64 6, .int .i64 n, .string s, .slice A ([] : List Int).length c] 24 (0, 0))
  go_wp2_with fail
  refine (rY y 4 _ (by omega) (by omega) (by omega) (HT.out.below (DU.out _))).mono ?_
  rintro e w1 ⟨⟨t1, rfl, ht1⟩, hb1⟩
  have hbw := (DU.out _).trans (hb1.mono (DU.out _).size)
  have HT1 := qh ht1
  have hl1 : t1.size ≤ 4 := by rw [fB ht1, HL.out.1]; exact Nat.le_refl _
  clear ht1 hb1 hb0
  go_wp2_with fail
  refine (rY m 2 w1 (by omega) (by omega) (by omega) (HT.out.below hbw)).mono ?_
  rintro e w2 ⟨⟨t2, rfl, ht2⟩, hb2⟩
  have hbw := hbw.trans (hb2.mono hbw.size)
  have HT2 := qh ht2
  have hl2 : t2.size ≤ 2 := by rw [fB ht2, HL.out.2.1]; exact Nat.le_refl _
  clear ht2 hb2
  go_wp2_with fail
  refine (rY d 2 w2 (by omega) (by omega) (by omega) (HT.out.below hbw)).mono ?_
  rintro e w3 ⟨⟨t3, rfl, ht3⟩, hb3⟩
  have hbw := hbw.trans (hb3.mono hbw.size)
  have HT3 := qh ht3
  have hl3 : t3.size ≤ 2 := by rw [fB ht3, HL.out.2.2]; exact Nat.le_refl _
  clear ht3 hb3
  go_wp2
  go_ret
  refine ⟨⟨_, rfl, ?_⟩, hbw⟩
  show _ = jB n
  unfold jB
  rw [HY.out.1, HY.out.2.1, HY.out.2.2]
  simp only [aC, HT1.out, HT2.out, HT3.out]
  rfl
 | bool h1 h2 =>
  obtain rfl | rfl : n = 0 ∨ n = 1 := by omega
  all_goals
   go_enter Tryz.func21, Tryz.ntmps21
   go_wp2_with fail
   refine (Tryz.strconv_FormatBool _ _).mono ?_
   rintro e w1 ⟨rfl, rfl⟩
   go_wp2
   go_ret
   exact ⟨⟨_, rfl, by decide +kernel⟩, DU.out _⟩
theorem qG {x : Val} (h : aV x = 0) : KL x.k x.n x.s.data.toList x.l ∧ x.l.length ≤ 40 ∧ x.s.size ≤ 200 := by
 unfold aV at h
 by_cases h1 : bF x.k 0 7 = true
 ·
  rw [if_pos h1] at h; cases h
 rw [if_neg h1] at h
 by_cases h2 : kQ x = true
 ·
  rw [if_pos h2] at h; cases h
 rw [if_neg h2] at h
 by_cases h3 : bF x.n (wJ x.k) (wK x.k) = true
 ·
  rw [if_pos h3] at h; cases h
 rw [if_neg h3] at h
 by_cases h4 : 200 < x.s.size ∨ 40 < x.l.length
 ·
  rw [if_pos h4] at h; cases h
 rw [if_neg h4] at h
 by_cases h5 : yj x.s = true
 ·
  rw [if_pos h5] at h; cases h
 rw [if_neg h5] at h
 by_cases h6 : x.l.any kR = true
 ·
  rw [if_pos h6] at h; cases h
 clear h h5
 have hc : ∀ c ∈ x.l, 1 ≤ c ∧ c ≤ 999 := by
  intro c hc
  rw [Bool.not_eq_true, List.any_eq_false] at h6
  have := h6 c hc
  simp only [kR, bF, Bool.or_eq_true, decide_eq_true_eq, not_or] at this
  omega
 simp only [not_or] at h4
 refine ⟨?_, by omega, by omega⟩
 simp only [bF, Bool.or_eq_true, decide_eq_true_eq, not_or] at h1 h3
 obtain ⟨k, n, s, l⟩ := x
 simp only [kQ] at h2
 simp only at h1 h3 hc
 rw [ByteArray.toList_eq] at h2
 show KL k n s.data.toList l
 generalize s.data.toList = S at h2
 clear h4 h6
 have hk : k = 0 ∨ k = 1 ∨ k = 2 ∨ k = 3 ∨ k = 4 ∨ k = 5 ∨ k = 6 ∨ k = 7 := by omega
 rcases hk with rfl | rfl | rfl | rfl | rfl | rfl | rfl | rfl
 all_goals simp [EC] at h2
 ·
  obtain ⟨rfl, rfl, rfl⟩ := h2
  exact .none_
 ·
  obtain ⟨rfl, rfl⟩ := h2
  simp [wJ, wK] at h3
  exact .word (by omega) (by omega)
 ·
  obtain ⟨rfl, rfl⟩ := h2
  simp [wJ, wK] at h3
  exact .num (by omega) (by omega)
 ·
  obtain ⟨rfl, rfl⟩ := h2
  exact .text _
 ·
  obtain ⟨rfl, rfl⟩ := h2
  simp [wJ, wK] at h3
  exact .code (by omega) (by omega)
 ·
  obtain ⟨rfl, rfl⟩ := h2
  exact .set hc
 ·
  obtain ⟨rfl, rfl⟩ := h2
  simp [wJ, wK] at h3
  exact .day (by omega) (by omega)
 ·
  obtain ⟨rfl, rfl⟩ := h2
  simp [wJ, wK] at h3
  exact .bool (by omega) (by omega)
end Go.Proofs.YtobanldeicclmaaGreatDoor
namespace Go.Proofs.YtobanldeicclmaaGreatDoor
open Vtx Go.Lib Dig
theorem vH {p : UInt8 → Bool} {w rest : List UInt8} (hw : ∀ c ∈ w, p c = true) (hr : ∀ c r, rest = c :: r → p c = false) : aK p (w ++ rest) = w.length := by
 induction w with
 | nil =>
  cases rest with
  | nil => rfl
  | cons c r => rw [List.nil_append, aK, hr c r rfl]; rfl
 | cons a w ih =>
  rw [List.cons_append, aK, hw a (List.mem_cons_self ..), ih (fun c hc => hw c (List.mem_cons_of_mem _ hc))]
  rfl
theorem qW {c : UInt8} (h : c ≠ 32) : aA c = false := by unfold aA; exact decide_eq_false h
def acu (s : List UInt8) (i : Nat) : Prop := i = 0 ∨ bK (s.getD (i - 1) 0) = false
def Stop (rest : List UInt8) : Prop := ∀ c r, rest = c :: r → c = 32 ∨ c = 41 ∨ c = 44
theorem xK {rest : List UInt8} (h : Stop rest) {p : UInt8 → Bool} (h1 : p 32 = false) (h2 : p 41 = false) (h3 : p 44 = false) : ∀ c r, rest = c :: r → p c = false := by
 intro c r e
 rcases h c r e with rfl | rfl | rfl <;> assumption
theorem IL {c : UInt8} (h : dE c = true) : bK c = true := by unfold bK; rw [h]; rfl
theorem OU {b : UInt8} (h : cu b) : 48 ≤ b.toNat ∧ b.toNat ≤ 57 := by
 unfold cu at h
 omega
theorem vI {b : UInt8} (h : cu b) : bI b = true := by
 have := OU h
 unfold bI
 simp; omega
theorem VF {b : UInt8} (h : bI b = true) : dE b = false := by
 unfold bI at h
 unfold dE
 simp at *
 omega
theorem oV {b c : UInt8} (h : bI b = true) (hc : bI c = false) : b ≠ c := by rintro rfl; rw [h] at hc; cases hc
theorem IM {c : UInt8} {w rest : List UInt8} (hc : dE c = true) (hw : ∀ x ∈ w, bK x = true) (hr : ∀ d r, rest = d :: r → bK d = false) : aJ ((c :: w) ++ rest) = (c :: w).length := by
 rw [List.cons_append, aJ, if_pos hc, vH hw hr, List.length_cons]
theorem VG {c : UInt8} {w rest : List UInt8} (hc : bI c = true) (hw : ∀ x ∈ w, iH x = true) (hr : ∀ d r, rest = d :: r → iH d = false) : aJ ((c :: w) ++ rest) = (c :: w).length := by
 rw [List.cons_append, aJ, if_neg (by rw [VF hc]; decide), if_pos hc, vH hw hr, List.length_cons]
theorem VH {w rest : List UInt8} (hw : ∀ x ∈ w, jY x = true) (hr : ∀ d r, rest = d :: r → jY d = false) : aJ ((64 :: w) ++ rest) = ((64 : UInt8) :: w).length := by
 rw [List.cons_append, aJ, if_neg (by decide), if_neg (by decide), if_pos rfl, vH hw hr, List.length_cons]
theorem Sz {w rest : List UInt8} (hw : ∀ x ∈ w, bI x = true) (hr : ∀ d r, rest = d :: r → bI d = false) : aJ ((35 :: w) ++ rest) = ((35 : UInt8) :: w).length := by
 rw [List.cons_append, aJ, if_neg (by decide), if_neg (by decide), if_neg (by decide), if_pos rfl, vH hw hr, List.length_cons]
theorem AO : ∀ {w : List UInt8} {rest : List UInt8}, (125 : UInt8) ∉ w → fZ (w ++ 125 :: rest) = w.length + 1
 | [], rest, _ => by rw [List.nil_append, fZ, if_pos rfl]; rfl
 | c :: w, rest, h => by
  rw [List.cons_append, fZ, if_neg (fun e => h (by rw [e]; exact List.mem_cons_self ..)), AO (fun e => h (List.mem_cons_of_mem _ e)), List.length_cons]
theorem VI {w rest : List UInt8} (hw : (125 : UInt8) ∉ w) : aJ ((123 :: (w ++ [125])) ++ rest) = ((123 : UInt8) :: (w ++ [125])).length := by
 rw [List.cons_append, aJ, if_neg (by decide), if_neg (by decide), if_neg (by decide), if_neg (by decide), if_neg (by decide), if_pos rfl, List.append_assoc]
 rw [show [(125 : UInt8)] ++ rest = 125 :: rest from rfl, AO hw]
 simp
theorem zk : ∀ (s : List UInt8) (rest : List UInt8), (∀ d r, rest = d :: r → d ≠ 39) → bU (subst1 39 [39, 39] s ++ 39 :: rest) = (subst1 39 [39, 39] s).length + 1
 | [], rest, h => by
  rw [show subst1 39 [39, 39] [] = [] from rfl, List.nil_append]
  cases rest with
  | nil => rfl
  | cons d r => rw [bU, if_neg (by decide), if_neg (h d r rfl)]; rfl
 | c :: s, rest, h => by
  have ih := zk s rest h
  by_cases hc : c = 39
  ·
   subst hc
   have e : subst1 39 [39, 39] (39 :: s) = 39 :: 39 :: subst1 39 [39, 39] s := by unfold subst1; simp
   rw [e, List.cons_append, List.cons_append, bU, if_neg (by decide), if_pos rfl, ih]
   simp
  ·
   have e : subst1 39 [39, 39] (c :: s) = c :: subst1 39 [39, 39] s := by unfold subst1; simp [hc]
   rw [e, List.cons_append]
   obtain ⟨d, t, hd⟩ : ∃ d t, subst1 39 [39, 39] s ++ 39 :: rest = d :: t := by
    cases e2 : subst1 39 [39, 39] s with
    | nil => exact ⟨_, _, rfl⟩
    | cons d t => exact ⟨_, _, rfl⟩
   rw [hd] at ih ⊢
   rw [bU, if_pos hc, ih]
   simp
theorem SA (s : List UInt8) {rest : List UInt8} (hr : ∀ d r, rest = d :: r → d ≠ 39) : aJ (vZ s ++ rest) = (vZ s).length := by
 unfold vZ
 rw [jK (by decide), uz]
 rw [List.cons_append, List.cons_append, aJ, if_neg (by decide), if_neg (by decide), if_neg (by decide), if_neg (by decide), if_pos rfl, List.append_assoc]
 rw [show [(39 : UInt8)] ++ rest = 39 :: rest from rfl, zk s rest hr]
 simp
theorem VJ {c : UInt8} {rest : List UInt8} (h1 : dE c = false) (h2 : bI c = false) (h3 : c ≠ 64 ∧ c ≠ 35 ∧ c ≠ 39 ∧ c ≠ 123) (h4 : ∀ d r, rest = d :: r → F9 c d = false) : aJ ([c] ++ rest) = [c].length := by
 rw [List.singleton_append, aJ, if_neg (by rw [h1]; decide), if_neg (by rw [h2]; decide), if_neg h3.1, if_neg h3.2.1, if_neg h3.2.2.1, if_neg h3.2.2.2]
 cases rest with
 | nil => rfl
 | cons d r => unfold qo; simp [h4 d r rfl]
section
variable {s : List UInt8}
def HW (s : List UInt8) (w f : List UInt8) : Prop := ∀ i rest, s.drop i = w ++ rest → Stop rest → acu s i → ∃ r, wordsOf s i = ⟨i, f, false⟩ :: r
theorem SB {acc : List Ex} {l : List Tok} (h : kU l zL = false) : Pz s.length .tZ acc l = .ok (pG 2 acc) l := by rw [bW]; exact if_neg (by rw [h]; decide)
theorem VK {acc : List Ex} {l : List Tok} (h : kU l QU = false) : Pz s.length .Ia acc l = .ok (pG 3 acc) l := by rw [bW]; exact if_neg (by rw [h]; decide)
theorem Ye {c : UInt8} (h : c ≠ 60 ∧ c ≠ 62) (rest : List UInt8) : ∀ d r, rest = d :: r → F9 c d = false := fun d r _ => by
 unfold F9
 simp [h.1, h.2]
end
theorem Yf {x v : Val} (h : (⟨x.k, x.n, x.s.data.toList, x.l⟩ : Q) = ⟨v.k, v.n, v.s.data.toList, v.l⟩) : x = v := by
 obtain ⟨k, n, s, l⟩ := x
 obtain ⟨k', n', s', l'⟩ := v
 injection h with h1 h2 h3 h4
 simp only at h1 h2 h3 h4
 have hs : s = s' := ByteArray.ext (Array.toList_inj.1 h3)
 subst h1 h2 hs h4
 rfl
theorem KP {v : Val} (h : aV v = 0) : fQ (showT v.k v.n v.s.data.toList v.l) = some v := by
 have hex : ∃ x : Val, aV x = 0 ∧ showT x.k x.n x.s.data.toList x.l = showT v.k v.n v.s.data.toList v.l := ⟨v, h, rfl⟩
 unfold fQ
 rw [dif_pos hex]
 have hx := hex.choose_spec
 have h1 := rW (qG hx.1).1
 rw [hx.2, rW (qG h).1] at h1
 rw [Yf (Option.some.inj h1).symm]
theorem VL {x : UInt8} (hx : x ≠ 44) : ∀ {l : List (List UInt8)}, (∀ p ∈ l, x ∉ p) → x ∉ join l [44] := by
 have ht : ∀ l : List (List UInt8), (∀ p ∈ l, x ∉ p) → x ∉ joinTail [44] l := by
  intro l h hm
  unfold joinTail at hm
  rw [List.mem_flatten] at hm
  obtain ⟨q, hq, hxq⟩ := hm
  rw [List.mem_map] at hq
  obtain ⟨p, hp, rfl⟩ := hq
  rcases List.mem_append.1 hxq with h1 | h1
  ·
   exact hx (by simpa using h1)
  ·
   exact h p hp h1
 intro l h
 cases l with
 | nil => rw [join_nil]; simp
 | cons a r =>
  rw [join_cons]
  intro hm
  rcases List.mem_append.1 hm with h1 | h1
  ·
   exact h a (List.mem_cons_self ..) h1
  ·
   exact ht r (fun p hp => h p (List.mem_cons_of_mem _ hp)) h1
theorem jh {c d : UInt8} {a b : List UInt8} (h : c ≠ d) : c :: a ≠ d :: b := fun e => h (List.cons.inj e).1
theorem qX {c : UInt8} {a : List UInt8} (h : c ≠ 123) {p : Prop} : fM (c :: a) = true → p := fun e => absurd (of_decide_eq_true e) h
theorem nd {b : UInt8} (h : bI b = false) : ¬ cu b := fun e => by rw [vI e] at h; cases h
structure CW (w : List UInt8) : Prop where
 len : ∀ rest, Stop rest → aJ (w ++ rest) = w.length
 head : ∃ c w', w = c :: w' ∧ c ≠ 32
 const : dF w = true
 ZY : fM w = true → (32 : UInt8) ∉ w
 n45 : w ≠ [45]
 nn : w ≠ Gf
theorem KQ {rest : List UInt8} (h : Stop rest) : ∀ c r, rest = c :: r → iH c = false := xK h (by decide) (by decide) (by decide)
theorem KR {rest : List UInt8} (h : Stop rest) : ∀ c r, rest = c :: r → jY c = false := xK h (by decide) (by decide) (by decide)
theorem OV {rest : List UInt8} (h : Stop rest) : ∀ c r, rest = c :: r → bI c = false := xK h (by decide) (by decide) (by decide)
theorem AP {rest : List UInt8} (h : Stop rest) : ∀ c r, rest = c :: r → bK c = false := xK h (by decide) (by decide) (by decide)
theorem SC (F M : Nat) : ∃ b r, decDigits F ++ (if fG M = [] then [] else 46 :: fG M) = b :: r ∧ bI b = true ∧ (∀ c ∈ r, iH c = true) := by
 obtain ⟨b, r, e, hb⟩ := mM F
 refine ⟨b, r ++ (if fG M = [] then [] else 46 :: fG M), by rw [e]; rfl, vI hb, fun c hc => ?_⟩
 have hd : ∀ c, cu c → iH c = true := fun c h => by unfold iH; rw [vI h]; rfl
 rcases List.mem_append.1 hc with h | h
 ·
  exact hd c (nR F c (by rw [e]; exact List.mem_cons_of_mem _ h))
 ·
  split at h
  ·
   cases h
  ·
   rcases List.mem_cons.1 h with h | h
   ·
    subst h; decide
   ·
    exact hd c (RG M c h)
theorem Yg {b : UInt8} {r : List UInt8} (hb : bI b = true) (hr : ∀ c ∈ r, iH c = true) : CW (b :: r) :=
 ⟨fun rest h => VG hb hr (KQ h), ⟨b, r, rfl, oV hb (by decide)⟩, by unfold dF; simp only [hb]; rfl,
  qX (oV hb (by decide)), jh (oV hb (by decide)), jh (oV hb (by decide))⟩
theorem AQ {k n : Int} {s : List UInt8} {l : List Int} (hs : KL k n s l) (hk : k ≠ 0 ∧ k ≠ 1) (hneg : ¬ (k = 2 ∧ n < 0)) : CW (showT k n s l) := by
 cases hs with
 | none_ => exact absurd rfl hk.1
 | word h1 h2 => exact absurd rfl hk.2
 | num h1 h2 =>
  show CW (mJ n)
  obtain ⟨F, M, -, -, -, e⟩ := vz h1 h2
  rw [e, if_neg (by omega), List.nil_append]
  obtain ⟨b, r, e2, hb, hr⟩ := SC F M
  rw [e2]
  exact Yg hb hr
 | text s =>
  show CW (vZ s)
  have e : ∃ w, vZ s = 39 :: w := ⟨_, rfl⟩
  obtain ⟨w, hw⟩ := e
  refine ⟨fun rest h => SA s (fun d r e => ?_), ⟨39, w, hw, by decide⟩, by rw [hw]; rfl, by rw [hw]; exact qX (by decide), by rw [hw]; exact jh (by decide), by rw [hw]; exact jh (by decide)⟩
  rcases h d r e with rfl | rfl | rfl <;> decide
 | code h1 h2 =>
  show CW (dh n)
  rw [lg (by omega)]
  exact ⟨fun rest h => Sz (fun x hx => vI (nR _ x hx)) (OV h), ⟨35, _, rfl, by decide⟩, by unfold dF; rfl, qX (by decide), jh (by decide), jh (by decide)⟩
 | set h =>
  show CW (kW l)
  have hno : ∀ x : UInt8, ¬ cu x → x ≠ 35 → x ≠ 44 → x ∉ join (l.map dh) [44] := fun x h1 h2 h3 => VL h3 (fun p hp => by
   obtain ⟨c, hc, rfl⟩ := List.mem_map.1 hp
   exact ND (by have := h c hc; omega) h1 h2)
  have e : kW l = 123 :: (join (l.map dh) [44] ++ [125]) := rfl
  rw [e]
  refine ⟨fun rest _ => VI (hno 125 (nd (by decide)) (by decide) (by decide)), ⟨123, _, rfl, by decide⟩, by unfold dF; rfl, fun _ hm => ?_, jh (by decide), jh (by decide)⟩
  rcases List.mem_cons.1 hm with h1 | h1
  ·
   cases h1
  ·
   rcases List.mem_append.1 h1 with h1 | h1
   ·
    exact hno 32 (nd (by decide)) (by decide) (by decide) h1
   ·
    simp at h1
 | day h1 h2 =>
  show CW (jB n)
  obtain ⟨y, m, d, e1, e2, e3, -, -, -, -, -⟩ := qV h1 h2
  have e : jB n = 64 :: (iO 4 (Cal.cy n) ++ [45] ++ iO 2 (Cal.cm n) ++ [45] ++ iO 2 (Cal.cd n)) := rfl
  rw [e, e1, e2, e3]
  have hd : ∀ c, cu c → jY c = true := fun c h => by unfold jY; rw [vI h]; rfl
  refine ⟨fun rest h => VH (fun x hx => ?_) (KR h), ⟨64, _, rfl, by decide⟩, by unfold dF; rfl, qX (by decide), jh (by decide), jh (by decide)⟩
  simp only [List.mem_append, List.mem_singleton] at hx
  rcases hx with (((hx | hx) | hx) | hx) | hx
  ·
   exact hd x (oK 4 y x hx)
  ·
   subst hx; decide
  ·
   exact hd x (oK 2 m x hx)
  ·
   subst hx; decide
  ·
   exact hd x (oK 2 d x hx)
 | bool h1 h2 =>
  show CW (if n = 1 then iP else dV)
  split
  ·
   exact ⟨fun rest h => IM (c := 116) (w := [114, 117, 101]) (by decide) (by decide) (AP h), ⟨_, _, rfl, by decide⟩, by decide, qX (by decide), by decide, by decide⟩
  ·
   exact ⟨fun rest h => IM (c := 102) (w := [97, 108, 115, 101]) (by decide) (by decide) (AP h), ⟨_, _, rfl, by decide⟩, by decide, qX (by decide), by decide, by decide⟩
section
variable {s : List UInt8}
end
end Go.Proofs.YtobanldeicclmaaGreatDoor
