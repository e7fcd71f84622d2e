/- The walks of the naturals: times. -/
import Derived.Test.YtmpelpmhbadjoaaGreatDoorNat3
namespace Go.Proofs.YtmpelpmhbadjoaaGreatDoor
open Go.RowKit Limb

theorem limV_set (l : List Nat) (j x : Nat) : (limV l).set j (.int .u64 (x : Int)) = limV (l.set j x) := by simp [limV, List.map_set]
theorem val_set {l : List Nat} {j : Nat} (h : j < l.length) (y : Nat) : val (l.set j y) + 1000000000 ^ j * l.getD j 0 = val l + 1000000000 ^ j * y := by
  have e := val_split l j (by omega)
  have e2 := val_split (l.set j y) j (by simp; omega)
  rw [List.take_set_of_le (by omega)] at e2
  rw [List.drop_eq_getElem_cons h] at e
  rw [List.drop_eq_getElem_cons (show j < (l.set j y).length by simpa using h)] at e2
  simp only [List.getElem_set_self, List.drop_set, show j < j + 1 from by omega, if_true, val] at e e2
  have g : l.getD j 0 = l[j] := by simp [List.getD, h]
  rw [e, e2, g, Nat.mul_add, Nat.mul_add]
  omega
theorem small_set {l : List Nat} (h : Small l) (j : Nat) {y : Nat} (hy : y < 1000000000) : Small (l.set j y) := fun x hx => by
  rcases List.mem_or_eq_of_mem_set hx with hx | rfl
  · exact h x hx
  · exact hy
theorem mul_le9 {x y : Nat} (hx : x < 1000000000) (hy : y < 1000000000) : (x : Int) * (y : Int) ≤ 999999998000000001 := by
  have : x * y ≤ 999999999 * 999999999 := Nat.mul_le_mul (by omega) (by omega)
  have e : ((x * y : Nat) : Int) = (x : Int) * y := by simp
  omega
def TimesInv (a b out : List Nat) (i k c : Nat) : Prop :=
  out.length = a.length + b.length ∧ Small out ∧ val out + 1000000000 ^ (i + k) * c = val (a.take i) * val b + 1000000000 ^ i * (a.getD i 0 * val (b.take k)) ∧ c < 1000000000 ∧ k ≤ b.length + 1
theorem TimesInv.inb {a b out : List Nat} {i k c : Nat} (h : TimesInv a b out i k c) (ha : Small a) (hb : Small b) (hg : k < b.length ∨ 0 < c) (hi : i < a.length) : i + k < a.length + b.length ∧ k ≤ b.length := by
  rcases Classical.em (k < b.length) with hk | hk
  · omega
  obtain ⟨h1, h2, h3, h4, h5⟩ := h
  have hc : 0 < c := by omega
  rw [val_take_all (show b.length ≤ k by omega)] at h3
  have e1 := val_take_getD a i
  have l1 := val_lt (ha.take (i + 1))
  rw [show (a.take (i + 1)).length = i + 1 by simp; omega, e1] at l1
  have l2 := val_lt hb
  have e2 : val (a.take i) * val b + 1000000000 ^ i * (a.getD i 0 * val b) = (val (a.take i) + 1000000000 ^ i * a.getD i 0) * val b := by
    rw [Nat.add_mul, Nat.mul_assoc]
  have l3 : (val (a.take i) + 1000000000 ^ i * a.getD i 0) * val b < 1000000000 ^ (i + 1) * 1000000000 ^ b.length :=
    Nat.lt_of_le_of_lt (Nat.mul_le_mul_left _ (Nat.le_of_lt l2)) (Nat.mul_lt_mul_of_pos_right l1 (pow_pos _))
  rw [← Nat.pow_add] at l3
  have l4 : 1000000000 ^ (i + k) * 1 ≤ 1000000000 ^ (i + k) * c := Nat.mul_le_mul_left _ hc
  have l5 : 1000000000 ^ (i + k) < 1000000000 ^ (i + 1 + b.length) := by omega
  have := (Nat.pow_lt_pow_iff_right (show 1 < 1000000000 by omega)).1 l5
  omega
theorem TimesInv.next {a b out : List Nat} {i k c s : Nat} (h : TimesInv a b out i k c) (ha : Small a) (hb : Small b) (hg : k < b.length ∨ 0 < c) (hi : i < a.length) (hs : s = out.getD (i + k) 0 + c + a.getD i 0 * b.getD k 0) :
    TimesInv a b (out.set (i + k) (s % 1000000000)) i (k + 1) (s / 1000000000) := by
  obtain ⟨hib, hkb⟩ := h.inb ha hb hg hi
  obtain ⟨h1, h2, h3, h4, h5⟩ := h
  have hx := getD_small ha i
  have hy := getD_small hb k
  have ho := getD_small h2 (i + k)
  have hm : a.getD i 0 * b.getD k 0 ≤ 999999999 * 999999999 := Nat.mul_le_mul (by omega) (by omega)
  refine ⟨by simp [h1], small_set h2 _ (Nat.mod_lt _ (by omega)), ?_, by omega, by omega⟩
  have sv := val_set (l := out) (j := i + k) (by omega) (s % 1000000000)
  rw [val_take_getD, Nat.mul_add, Nat.mul_add]
  have e : s % 1000000000 + 1000000000 * (s / 1000000000) = s := by omega
  have e2 : 1000000000 ^ (i + k) * (s % 1000000000) + 1000000000 ^ (i + (k + 1)) * (s / 1000000000) = 1000000000 ^ (i + k) * s := by
    rw [← Nat.add_assoc, pow_succ', Nat.mul_assoc, ← Nat.mul_add, e]
  have e3 : 1000000000 ^ (i + k) * s = 1000000000 ^ (i + k) * out.getD (i + k) 0 + 1000000000 ^ (i + k) * c + 1000000000 ^ (i + k) * (a.getD i 0 * b.getD k 0) := by rw [hs, Nat.mul_add, Nat.mul_add]
  have e4 : 1000000000 ^ i * (a.getD i 0 * (1000000000 ^ k * b.getD k 0)) = 1000000000 ^ (i + k) * (a.getD i 0 * b.getD k 0) := by
    rw [Nat.pow_add]; ac_rfl
  rw [e4]
  omega
theorem TimesInv.done {a b out : List Nat} {i k : Nat} (h : TimesInv a b out i k 0) (hk : b.length ≤ k) : val out = val (a.take (i + 1)) * val b := by
  have h3 := h.2.2.1
  rw [val_take_all hk] at h3
  rw [val_take_getD, Nat.add_mul, Nat.mul_assoc]
  omega
def TimesOut (a b out : List Nat) (i : Nat) : Prop := out.length = a.length + b.length ∧ Small out ∧ val out = val (a.take i) * val b
theorem TimesOut.start {a b out : List Nat} {i : Nat} (h : TimesOut a b out i) : TimesInv a b out i 0 0 :=
  ⟨h.1, h.2.1, by simp [h.2.2, val], by omega, by omega⟩
theorem val_rep (n : Nat) : val (List.replicate n 0) = 0 := by have := val_zeros [] n; simpa [val] using this
theorem small_rep (n : Nat) : Small (List.replicate n 0) := fun x hx => by
  have := (List.mem_replicate.1 hx).2
  omega
set_option maxRecDepth 100000 in
set_option maxHeartbeats 2000000 in
theorem timesL_any (A1 A2 : Option Addr) (a b : List Nat) (c1 c2 : Nat) (w : World) (ha : Small a) (hb : Small b) (hla : a.length ≤ 1000000) (hlb : b.length ≤ 1000000) (hra : Reads w w.heap.size 1 A1 a.length (limV a)) (hrb : Reads w w.heap.size 1 A2 b.length (limV b)) :
    Calls Tryz.prog 42 #[.slice A1 a.length c1, .slice A2 b.length c2] w fun e w' => (∃ v, e = .returned v ∧ Rep w' (a.length + b.length) v (val a * val b)) ∧ Below w.heap.size w w' := by
  obtain ⟨i0, hi, hz0, hz1, hz2⟩ := info_parts infoU
  go_enter Tryz.func42, Tryz.ntmps42
  go_wp2_with (at_make; refine wpList_make_full _ rfl _ _ 42 rfl w.heap.size 44 i0 (.int .u64 0) 1 Tryz.underlying42 hi hz0 hz1 .i64 .i64 ((a.length : Int) + (b.length : Int)) ((a.length : Int) + (b.length : Int)) (a.length + b.length) rfl rfl (by simp) (by simp) ?c1 ?c2 ?c3 ?_)
  case c1 => rw [hz2]; omega
  case c2 => unfold maxLen; omega
  case c3 => exact Nat.le_refl _
  intro w1 hown hg1
  have hb1 : Below w.heap.size w w1 := (Below.refl _ _).grown hg1 (Nat.le_refl _) (fun g hg => by cases hg)
  have hown1 : w1.ownsRow w.heap.size 44 1 (.slice (some ⟨w.heap.size, 0, none⟩) (a.length + b.length) (a.length + b.length)) (a.length + b.length) (limV (List.replicate (a.length + b.length) 0)) := by
    rw [limV_zeros, ← toList_madeCells_one, ← Nat.mul_one (a.length + b.length)]
    simpa using hown
  have HO := Lib.hid hown1
  have HT0 := Lib.hid (show TimesOut a b (List.replicate (a.length + b.length) 0) 0 from ⟨by simp, small_rep _, by simp [val_rep, val]⟩)
  clear hown hg1 hown1
  go_wp2
  go_loopw [19, 6, 7, 8, 9, 10] (fun s _ _ _ _ _ wr => ∃ (i : Nat) (out : List Nat), i ≤ a.length ∧ s = .int .i64 (i : Int) ∧ TimesOut a b out i ∧ wr.ownsRow w.heap.size 44 1 (.slice (some ⟨w.heap.size, 0, none⟩) (a.length + b.length) (a.length + b.length)) (a.length + b.length) (limV out) ∧ Below w.heap.size w wr) (fun s _ _ _ _ _ _ => a.length - (intOf s).toNat)
  case atStart => exact ⟨0, _, Nat.zero_le _, rfl, HT0.out, HO.out, hb1⟩
  case round =>
    obtain ⟨i, out, hil, rfl, hto, hown, hbr⟩ := hrel
    clear HO hb1 HT0
    have HTO := Lib.hid hto
    have HOW0 := Lib.hid hown
    clear hto hown
    by_cases hlt : i < a.length
    · obtain ⟨ad, rfl, hca⟩ := (hra.below hbr).limb hlt
      obtain ⟨x, hxe⟩ : ∃ x, a[i] = x := ⟨_, rfl⟩
      have hx : x < 1000000000 := by rw [← hxe]; exact ha.at_ hlt
      have HXD := Lib.hid (show a.getD i 0 = x by rw [← hxe]; simp [List.getD, hlt])
      rw [hxe] at hca
      clear hxe
      go_wp2
      go_loopw [8, 9, 10] (fun cc kk _ wr => ∃ (k c : Nat) (out : List Nat), kk = .int .i64 (k : Int) ∧ cc = .int .u64 (c : Int) ∧ TimesInv a b out i k c ∧ wr.ownsRow w.heap.size 44 1 (.slice (some ⟨w.heap.size, 0, none⟩) (a.length + b.length) (a.length + b.length)) (a.length + b.length) (limV out) ∧ Below w.heap.size w wr) (fun _ kk _ _ => b.length + 1 - (intOf kk).toNat)
      case atStart => exact ⟨0, 0, out, rfl, rfl, HTO.out.start, HOW0.out, hbr⟩
      case round =>
        obtain ⟨k, c, o2, rfl, rfl, hinv, hown, hbr2⟩ := hrel
        have hc1 : c < 1000000000 := hinv.2.2.2.1
        have hkb : k ≤ b.length + 1 := hinv.2.2.2.2
        have HL := Lib.hid hinv.1
        have HI := Lib.hid hinv
        clear HTO HOW0 hbr hca
        by_cases hgo : k < b.length ∨ 0 < c
        · have hin := hinv.inb ha hb hgo hlt
          have hik := hin.1
          have hkl := hin.2
          clear hkb
          have hgo := Lib.hid hgo
          have hi2 : i + k < o2.length := by rw [HL.out]; exact hik
          obtain ⟨o, hoe⟩ : ∃ o, o2[i + k] = o := ⟨_, rfl⟩
          have ho : o < 1000000000 := by rw [← hoe]; exact hinv.2.1.at_ hi2
          have HOD := Lib.hid (show o2.getD (i + k) 0 = o by rw [← hoe]; simp [List.getD, hi2])
          have hcell : wr.cell? ⟨w.heap.size, i + k, none⟩ = some (.int .u64 (o : Int)) := by
            rw [hown.cellAt (i + k) (by omega), limV_at hi2, hoe]
          have hf := hown.frozenAt (i + k)
          have HOW := Lib.hid hown
          clear hown hinv hoe hi2 hin
          by_cases kb : k < b.length
          · obtain ⟨bd, rfl, hcb⟩ := (hrb.below hbr2).limb kb
            obtain ⟨y, hye⟩ : ∃ y, b[k] = y := ⟨_, rfl⟩
            have hy : y < 1000000000 := by rw [← hye]; exact hb.at_ kb
            have hyd : b.getD k 0 = y := by rw [← hye]; simp [List.getD, kb]
            rw [hye] at hcb
            have HN := Lib.hid (HI.out.next ha hb (hgo.out) hlt (s := o + c + x * y) (by rw [HOD.out, HXD.out, hyd]))
            have HB1 := Lib.hid (HI.out.inb ha hb (hgo.out) hlt)
            clear hye hyd
            have hm := mul_le9 hx hy
            have hm0 : 0 ≤ (x : Int) * (y : Int) := Int.mul_nonneg (by omega) (by omega)
            have st := HOW.out.stored (i + k) (.int .u64 (((o + c + x * y) % 1000000000 : Nat) : Int))
            rw [limV_set] at st
            have HS := Lib.hid st.1
            have HB := Lib.hid (show Below w.heap.size w _ from hbr2.setCell (p := ⟨w.heap.size, i + k, none⟩) (Nat.le_refl _) (.int .u64 (((o + c + x * y) % 1000000000 : Nat) : Int)))
            clear st
            have ex : (((o + c + x * y) % 1000000000 : Nat) : Int) = ((o : Int) + (c : Int) + (x : Int) * (y : Int)) % 1000000000 := by simp
            rw [ex] at HS HB
            clear ex
            go_wp2
            go_roundw
            case rel => exact ⟨k + 1, (o + c + x * y) / 1000000000, _, by go_num, by simp, HN.out, HS.out, HB.out⟩
            case measure => simp [intOf]; omega
          · have hyd : b.getD k 0 = 0 := by simp [List.getD, show b.length ≤ k by omega]
            have HN := Lib.hid (HI.out.next ha hb (hgo.out) hlt (s := o + c) (by rw [HOD.out, HXD.out, hyd]; simp))
            have HB1 := Lib.hid (HI.out.inb ha hb (hgo.out) hlt)
            have hc0 : 0 < c := by have := hgo.out; omega
            clear hyd
            have st := HOW.out.stored (i + k) (.int .u64 (((o + c) % 1000000000 : Nat) : Int))
            rw [limV_set] at st
            have HS := Lib.hid st.1
            have HB := Lib.hid (show Below w.heap.size w _ from hbr2.setCell (p := ⟨w.heap.size, i + k, none⟩) (Nat.le_refl _) (.int .u64 (((o + c) % 1000000000 : Nat) : Int)))
            clear st
            have ex : (((o + c) % 1000000000 : Nat) : Int) = ((o : Int) + (c : Int)) % 1000000000 := by simp
            rw [ex] at HS HB
            clear ex
            go_wp2
            go_roundw
            case rel => exact ⟨k + 1, (o + c) / 1000000000, _, by go_num, by simp, HN.out, HS.out, HB.out⟩
            case measure => simp [intOf]; omega
        · have hc0 : c = 0 := by omega
          subst hc0
          have HT := Lib.hid (show TimesOut a b o2 (i + 1) from ⟨HL.out, hinv.2.1, hinv.done (by omega)⟩)
          have HOW := Lib.hid hown
          have hkl : b.length ≤ k := by omega
          clear hinv hown hgo
          go_wp2
          go_roundw
          case rel => exact ⟨i + 1, _, by omega, by go_num, HT.out, HOW.out, hbr2⟩
          case measure => simp [intOf]; omega
    · have hi0 : i = a.length := by omega
      have HV := Lib.hid (show val out = val a * val b by rw [HTO.out.2.2, val_take_all (by omega)])
      have HS := Lib.hid HTO.out.2.1
      have hlo : out.length = a.length + b.length := HTO.out.1
      have HLO := Lib.hid hlo
      have hr : Reads wr wr.heap.size 1 (some ⟨w.heap.size, 0, none⟩) out.length (limV out) := by
        have h := HOW0.out
        rw [← HLO.out] at h
        exact Reads.of_own h
      clear hlo
      go_wp2_with fail
      have tr := trim_any (some ⟨w.heap.size, 0, none⟩) out (a.length + b.length) wr.heap.size wr (by rw [HLO.out]; exact Nat.le_refl _) (by unfold maxLen; omega) hr
      rw [HLO.out] at tr
      refine tr.mono ?_
      clear tr
      rintro e w2 ⟨⟨m, hm, rfl, ht, hv⟩, rfl⟩
      have HR := Lib.hid (show Rep wr (a.length + b.length) (.slice (some ⟨w.heap.size, 0, none⟩) m (a.length + b.length)) (val a * val b) from rep_trim hr (by rw [HLO.out]; exact Nat.le_refl _) (by unfold maxLen; omega) (by rw [HLO.out]; exact hm) HS.out ht (hv.trans HV.out) hm)
      clear ht hv hr
      go_wp2
      go_ret
      exact ⟨⟨_, rfl, HR.out⟩, hbr⟩
end Go.Proofs.YtmpelpmhbadjoaaGreatDoor
