/- The walks of the naturals: minus, compare. Conditions: lengths are small. -/
import Derived.Test.YtmpelpmhbadjoaaGreatDoorNat
namespace Go.Proofs.YtmpelpmhbadjoaaGreatDoor
open Go.RowKit Limb

theorem set_mid (out : List Nat) (m x : Nat) (h : 0 < m) : (limV (out ++ List.replicate m 0)).set out.length (.int .u64 (x : Int)) = limV ((out ++ [x]) ++ List.replicate (m - 1) 0) := by
  obtain ⟨j, rfl⟩ : ∃ j, m = j + 1 := ⟨m - 1, by omega⟩
  simp [limV, List.replicate_succ]
theorem limV_zeros (n : Nat) : limV (List.replicate n 0) = List.replicate n (.int .u64 0) := by simp [limV]

def MinusInv (a b out : List Nat) (k c : Nat) : Prop :=
  out.length = k ∧ Small out ∧ val out + val (b.take k) = val (a.take k) + 1000000000 ^ k * c ∧ c ≤ 1
theorem MinusInv.next {a b out : List Nat} {k c x c' : Nat} (h : MinusInv a b out k c) (hx : x < 1000000000) (hc : c' ≤ 1) (hs : a.getD k 0 + 1000000000 * c' = x + (b.getD k 0 + c)) :
    MinusInv a b (out ++ [x]) (k + 1) c' := by
  obtain ⟨h1, h2, h3, h4⟩ := h
  refine ⟨by simp [h1], h2.snoc hx, ?_, hc⟩
  rw [val_snoc, h1, val_take_getD, val_take_getD, pow_succ']
  exact minus_step c' h3 hs
theorem MinusInv.done {a b out : List Nat} {k c : Nat} (h : MinusInv a b out k c) (_ha : Small a) (hk : a.length = k) (hb : b.length ≤ k) (hle : val b ≤ val a) : val out = val a - val b := by
  obtain ⟨h1, h2, h3, h4⟩ := h
  have hlt := val_lt h2
  rw [h1] at hlt
  rw [val_take_all hb, val_take_all (by omega)] at h3
  have : c = 0 ∨ c = 1 := by omega
  rcases this with rfl | rfl
  · omega
  · omega
set_option maxRecDepth 100000 in
set_option maxHeartbeats 1000000 in
theorem minusL_any (A1 A2 : Option Addr) (a b : List Nat) (c1 c2 : Nat) (w : World) (ha : Small a) (hb : Small b) (hla : a.length ≤ 1000000) (hlb : b.length ≤ a.length) (hle : val b ≤ val a) (hra : Reads w w.heap.size 1 A1 a.length (limV a)) (hrb : Reads w w.heap.size 1 A2 b.length (limV b)) :
    Calls Tryz.prog 67 #[.slice A1 a.length c1, .slice A2 b.length c2] w fun e w' => (∃ v, e = .returned v ∧ Rep w' a.length v (val a - val b)) ∧ Below w.heap.size w w' := by
  obtain ⟨i0, hi, hz0, hz1, hz2⟩ := info_parts infoU
  have HLE := Lib.hid hle
  clear hle
  go_enter Tryz.func67, Tryz.ntmps67
  go_wp2_with (at_make; refine wpList_make_full _ rfl _ _ 42 rfl w.heap.size 44 i0 (.int .u64 0) 1 Tryz.underlying42 hi hz0 hz1 .i64 .i64 (a.length : Int) (a.length : Int) a.length rfl rfl rfl rfl ?c1 ?c2 ?c3 ?_)
  case c1 => rw [hz2]; omega
  case c2 => unfold maxLen; omega
  case c3 => exact Nat.le_refl _
  intro w1 hown hg1
  have hb1 : Below w.heap.size w w1 := (Below.refl _ _).grown hg1 (Nat.le_refl _) (fun g hg => by cases hg)
  have hown1 : w1.ownsRow w.heap.size 44 1 (.slice (some ⟨w.heap.size, 0, none⟩) a.length a.length) a.length (limV (List.replicate a.length 0)) := by
    rw [limV_zeros, ← toList_madeCells_one, ← Nat.mul_one a.length]
    simpa using hown
  have HO := Lib.hid hown1
  clear hown hg1 hown1
  go_wp2
  go_loopw [14, 7, 6, 8] (fun i _ cc _ wr => ∃ (k c : Nat) (out : List Nat), k ≤ a.length ∧ i = .int .i64 (k : Int) ∧ cc = .int .u64 (c : Int) ∧ MinusInv a b out k c ∧ wr.ownsRow w.heap.size 44 1 (.slice (some ⟨w.heap.size, 0, none⟩) a.length a.length) a.length (limV (out ++ List.replicate (a.length - k) 0)) ∧ Below w.heap.size w wr) (fun i _ _ _ _ => a.length - (intOf i).toNat)
  case atStart => exact ⟨0, 0, [], Nat.zero_le _, rfl, rfl, ⟨rfl, Small.nil, by simp [val], by omega⟩, HO.out, hb1⟩
  case round =>
    obtain ⟨k, c, out, hk, rfl, rfl, hinv, hown, hbr⟩ := hrel
    have hc1 : c ≤ 1 := hinv.2.2.2
    have HL := Lib.hid hinv.1
    clear HO hb1
    by_cases hlt : k < a.length
    · have hy : b.getD k 0 < 1000000000 := getD_small hb k
      obtain ⟨ad, rfl, hca⟩ := (hra.below hbr).limb hlt
      obtain ⟨x, hxe⟩ : ∃ x, a[k] = x := ⟨_, rfl⟩
      have hx : x < 1000000000 := by rw [← hxe]; exact ha.at_ hlt
      have hxd : a.getD k 0 = x := by rw [← hxe]; simp [List.getD, hlt]
      rw [hxe] at hca
      have HX := Lib.hid hxd
      clear hxe hxd
      have HI := Lib.hid hinv
      clear hinv
      have hcell : ∃ u, wr.cell? ⟨w.heap.size, k, none⟩ = some u := by
        rw [hown.cellAt k (by omega)]
        exact ⟨_, List.getElem?_eq_getElem (by rw [limV_len]; simp [HL.out]; omega)⟩
      obtain ⟨u, hu⟩ := hcell
      have hf := hown.frozenAt k
      have HOW := Lib.hid hown
      clear hown
      by_cases kb : k < b.length
      · obtain ⟨bd, rfl, hcb⟩ := (hrb.below hbr).limb kb
        obtain ⟨y, hye⟩ : ∃ y, b[k] = y := ⟨_, rfl⟩
        have hyd : b.getD k 0 = y := by rw [← hye]; simp [List.getD, kb]
        rw [hye] at hcb
        rw [hyd] at hy
        have HY := Lib.hid hyd
        clear hye hyd
        by_cases hge : (c : Int) + (y : Int) ≤ (x : Int)
        · have HN := Lib.hid (HI.out.next (x := (x - (c + y))) (c' := 0) (by omega) (by omega) (by have := HX.out; have := HY.out; omega))
          have st := HOW.out.stored k (.int .u64 (((x - (c + y)) : Nat) : Int))
          have e : (limV (out ++ List.replicate (a.length - k) 0)).set k (.int .u64 (((x - (c + y)) : Nat) : Int)) = limV ((out ++ [(x - (c + y))]) ++ List.replicate (a.length - (k + 1)) 0) := by
            have := set_mid out (a.length - k) (x - (c + y)) (by omega)
            rw [HL.out] at this
            rw [this, show a.length - k - 1 = a.length - (k + 1) from by omega]
          rw [e] at st
          have HS := Lib.hid st.1
          have hb2 : Below w.heap.size w _ := hbr.setCell (p := ⟨w.heap.size, k, none⟩) (Nat.le_refl _) (.int .u64 (((x - (c + y)) : Nat) : Int))
          have HB := Lib.hid hb2
          clear st e hb2
          have ex : (((x - (c + y)) : Nat) : Int) = (x : Int) - ((c : Int) + (y : Int)) := by omega
          rw [ex] at HS HB
          clear ex
          go_wp2
          go_roundw
          case rel => exact ⟨k + 1, 0, _, by omega, by go_num, rfl, HN.out, HS.out, HB.out⟩
          case measure => simp [intOf]; omega
        · have HN := Lib.hid (HI.out.next (x := (x + 1000000000 - (c + y))) (c' := 1) (by omega) (by omega) (by have := HX.out; have := HY.out; omega))
          have st := HOW.out.stored k (.int .u64 (((x + 1000000000 - (c + y)) : Nat) : Int))
          have e : (limV (out ++ List.replicate (a.length - k) 0)).set k (.int .u64 (((x + 1000000000 - (c + y)) : Nat) : Int)) = limV ((out ++ [(x + 1000000000 - (c + y))]) ++ List.replicate (a.length - (k + 1)) 0) := by
            have := set_mid out (a.length - k) (x + 1000000000 - (c + y)) (by omega)
            rw [HL.out] at this
            rw [this, show a.length - k - 1 = a.length - (k + 1) from by omega]
          rw [e] at st
          have HS := Lib.hid st.1
          have hb2 : Below w.heap.size w _ := hbr.setCell (p := ⟨w.heap.size, k, none⟩) (Nat.le_refl _) (.int .u64 (((x + 1000000000 - (c + y)) : Nat) : Int))
          have HB := Lib.hid hb2
          clear st e hb2
          have ex : (((x + 1000000000 - (c + y)) : Nat) : Int) = (x : Int) + 1000000000 - ((c : Int) + (y : Int)) := by omega
          rw [ex] at HS HB
          clear ex
          go_wp2
          go_roundw
          case rel => exact ⟨k + 1, 1, _, by omega, by go_num, rfl, HN.out, HS.out, HB.out⟩
          case measure => simp [intOf]; omega
      · have hyd : b.getD k 0 = 0 := by simp [List.getD, show b.length ≤ k by omega]
        have HY := Lib.hid hyd
        clear hyd hy
        by_cases hge : (c : Int) ≤ (x : Int)
        · have HN := Lib.hid (HI.out.next (x := (x - (c))) (c' := 0) (by omega) (by omega) (by have := HX.out; have := HY.out; omega))
          have st := HOW.out.stored k (.int .u64 (((x - (c)) : Nat) : Int))
          have e : (limV (out ++ List.replicate (a.length - k) 0)).set k (.int .u64 (((x - (c)) : Nat) : Int)) = limV ((out ++ [(x - (c))]) ++ List.replicate (a.length - (k + 1)) 0) := by
            have := set_mid out (a.length - k) (x - (c)) (by omega)
            rw [HL.out] at this
            rw [this, show a.length - k - 1 = a.length - (k + 1) from by omega]
          rw [e] at st
          have HS := Lib.hid st.1
          have hb2 : Below w.heap.size w _ := hbr.setCell (p := ⟨w.heap.size, k, none⟩) (Nat.le_refl _) (.int .u64 (((x - (c)) : Nat) : Int))
          have HB := Lib.hid hb2
          clear st e hb2
          have ex : (((x - (c)) : Nat) : Int) = (x : Int) - ((c : Int)) := by omega
          rw [ex] at HS HB
          clear ex
          go_wp2
          go_roundw
          case rel => exact ⟨k + 1, 0, _, by omega, by go_num, rfl, HN.out, HS.out, HB.out⟩
          case measure => simp [intOf]; omega
        · have HN := Lib.hid (HI.out.next (x := (x + 1000000000 - (c))) (c' := 1) (by omega) (by omega) (by have := HX.out; have := HY.out; omega))
          have st := HOW.out.stored k (.int .u64 (((x + 1000000000 - (c)) : Nat) : Int))
          have e : (limV (out ++ List.replicate (a.length - k) 0)).set k (.int .u64 (((x + 1000000000 - (c)) : Nat) : Int)) = limV ((out ++ [(x + 1000000000 - (c))]) ++ List.replicate (a.length - (k + 1)) 0) := by
            have := set_mid out (a.length - k) (x + 1000000000 - (c)) (by omega)
            rw [HL.out] at this
            rw [this, show a.length - k - 1 = a.length - (k + 1) from by omega]
          rw [e] at st
          have HS := Lib.hid st.1
          have hb2 : Below w.heap.size w _ := hbr.setCell (p := ⟨w.heap.size, k, none⟩) (Nat.le_refl _) (.int .u64 (((x + 1000000000 - (c)) : Nat) : Int))
          have HB := Lib.hid hb2
          clear st e hb2
          have ex : (((x + 1000000000 - (c)) : Nat) : Int) = (x : Int) + 1000000000 - ((c : Int)) := by omega
          rw [ex] at HS HB
          clear ex
          go_wp2
          go_roundw
          case rel => exact ⟨k + 1, 1, _, by omega, by go_num, rfl, HN.out, HS.out, HB.out⟩
          case measure => simp [intOf]; omega
    · have hka : a.length = k := by omega
      have HV := Lib.hid (hinv.done ha hka (by omega) HLE.out)
      have HS := Lib.hid hinv.2.1
      have hl0 : (limV (out ++ List.replicate (a.length - k) 0)) = limV out := by rw [show a.length - k = 0 from by omega]; simp
      rw [hl0] at hown
      have HOW := Lib.hid hown
      have hlo : out.length = a.length := by rw [HL.out]; omega
      clear hown hinv hl0 hc1
      have HLO := Lib.hid hlo
      have hr : Reads wr wr.heap.size 1 (some ⟨w.heap.size, 0, none⟩) out.length (limV out) := by
        have h := HOW.out
        rw [← HLO.out] at h
        exact Reads.of_own h
      have HKA := Lib.hid hka
      clear hka hlo
      go_wp2_with fail
      have tr := trim_any (some ⟨w.heap.size, 0, none⟩) out a.length wr.heap.size wr (by rw [HLO.out]; exact Nat.le_refl _) (by unfold maxLen; omega) hr
      rw [HLO.out] at tr
      refine tr.mono ?_
      clear tr
      rintro e w2 ⟨⟨m, hm, rfl, ht, hv⟩, rfl⟩
      have HR := Lib.hid (show Rep wr a.length (.slice (some ⟨w.heap.size, 0, none⟩) m a.length) (val a - val b) from rep_trim hr (by rw [HLO.out]; exact Nat.le_refl _) (by unfold maxLen; omega) (by rw [HLO.out]; exact hm) HS.out ht (hv.trans HV.out) hm)
      clear ht hv hr
      go_wp2
      go_ret
      exact ⟨⟨_, rfl, HR.out⟩, hbr⟩
end Go.Proofs.YtmpelpmhbadjoaaGreatDoor
