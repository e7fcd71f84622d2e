/- The reference's naturals: times; the contracts over RepI. -/
import Derived.Test.YtmpelpmhbadjoaaGreatDoorRN2
import Derived.Test.YtmpelpmhbadjoaaGreatDoorNat10
namespace Go.Proofs.YtmpelpmhbadjoaaGreatDoor
open Go.RowKit Limb

theorem limI_set (l : List Nat) (j x : Nat) : (limI l).set j (.int .i64 (x : Int)) = limI (l.set j x) := by simp [limI, List.map_set]
theorem limI_zeros (n : Nat) : limI (List.replicate n 0) = List.replicate n (.int .i64 0) := by simp [limI]
theorem val_app0 (l : List Nat) : val (l ++ [0]) = val l := by rw [val_snoc]; simp
set_option maxRecDepth 100000 in
set_option maxHeartbeats 4000000 in
theorem rtimesL_any (A1 A2 : Option Addr) (a b : List Nat) (c1 c2 : Nat) (w : World) (ha : Small a) (hb : Small b) (hla : a.length ≤ 1000000) (hlb : b.length ≤ 1000000) (hra : Reads w w.heap.size 1 A1 a.length (limI a)) (hrb : Reads w w.heap.size 1 A2 b.length (limI b)) :
    Calls Tryz.prog 38 #[.slice A1 a.length c1, .slice A2 b.length c2] w fun e w' => (∃ v, e = .returned v ∧ RepI w' (a.length + b.length + 1) v (val a * val b)) ∧ Below w.heap.size w w' := by
  obtain ⟨i0, hi, hz0, hz1, hz2⟩ := info_parts infoI
  go_enter Tryz.func38, Tryz.ntmps38
  go_wp2_with (at_make; refine wpList_make_full _ rfl _ _ 50 rfl w.heap.size 3 i0 (.int .i64 0) 1 Tryz.underlying50 hi hz0 hz1 .i64 .i64 ((a.length : Int) + (b.length : Int) + 1) ((a.length : Int) + (b.length : Int) + 1) (a.length + b.length + 1) rfl rfl (by simp) (by simp) ?c1 ?c2 ?c3 ?_)
  case c1 => rw [hz2]; omega
  case c2 => unfold maxLen; omega
  case c3 => exact Nat.le_refl _
  intro w1 hown hg1
  have hb1 : Below w.heap.size w w1 := (Below.refl _ _).grown hg1 (Nat.le_refl _) (fun g hg => by cases hg)
  have hown1 : w1.ownsRow w.heap.size 3 1 (.slice (some ⟨w.heap.size, 0, none⟩) (a.length + b.length + 1) (a.length + b.length + 1)) (a.length + b.length + 1) (limI (List.replicate (a.length + b.length) 0 ++ [0])) := by
    rw [show List.replicate (a.length + b.length) 0 ++ [0] = List.replicate (a.length + b.length + 1) 0 from (List.replicate_succ' ..).symm, limI_zeros, ← toList_madeCells_one, ← Nat.mul_one (a.length + b.length + 1)]
    simpa using hown
  have HO := Lib.hid hown1
  have HT0 := Lib.hid (show TimesOut a b (List.replicate (a.length + b.length) 0) 0 from ⟨by simp, small_rep _, by simp [val_rep, val]⟩)
  clear hown hg1 hown1
  go_wp2
  go_loopw [19, 6, 7, 8, 9] (fun s _ _ _ _ wr => ∃ (i : Nat) (out : List Nat), i ≤ a.length ∧ s = .int .i64 (i : Int) ∧ TimesOut a b out i ∧ wr.ownsRow w.heap.size 3 1 (.slice (some ⟨w.heap.size, 0, none⟩) (a.length + b.length + 1) (a.length + b.length + 1)) (a.length + b.length + 1) (limI (out ++ [0])) ∧ Below w.heap.size w wr) (fun s _ _ _ _ _ => a.length - (intOf s).toNat)
  case atStart => exact ⟨0, _, Nat.zero_le _, rfl, HT0.out, HO.out, hb1⟩
  case round =>
    obtain ⟨i, out, hil, rfl, hto, hown, hbr⟩ := hrel
    clear HO hb1 HT0
    have HTO := Lib.hid hto
    have HOW0 := Lib.hid hown
    clear hto hown
    by_cases hlt : i < a.length
    · obtain ⟨x, hxe⟩ : ∃ x, a[i] = x := ⟨_, rfl⟩
      have hx : x < 1000000000 := by rw [← hxe]; exact ha.at_ hlt
      have HXD := Lib.hid (show a.getD i 0 = x by rw [← hxe]; simp [List.getD, hlt])
      have HXE := Lib.hid hxe
      clear hxe
      go_wp2
      go_loopw [7, 8, 9] (fun cc kk _ wr => ∃ (k c : Nat) (out : List Nat), kk = .int .i64 (k : Int) ∧ cc = .int .i64 (c : Int) ∧ TimesInv a b out i k c ∧ wr.ownsRow w.heap.size 3 1 (.slice (some ⟨w.heap.size, 0, none⟩) (a.length + b.length + 1) (a.length + b.length + 1)) (a.length + b.length + 1) (limI (out ++ [0])) ∧ Below w.heap.size w wr) (fun _ kk _ _ => b.length + 1 - (intOf kk).toNat)
      case atStart => exact ⟨0, 0, out, rfl, rfl, HTO.out.start, HOW0.out, hbr⟩
      case round =>
        obtain ⟨k, c, o2, rfl, rfl, hinv, hown, hbr2⟩ := hrel
        have hc1 : c < 1000000000 := hinv.2.2.2.1
        have hkb : k ≤ b.length + 1 := hinv.2.2.2.2
        have HL := Lib.hid hinv.1
        have HI := Lib.hid hinv
        clear HTO HOW0 hbr
        by_cases hgo : k < b.length ∨ 0 < c
        · have hin := hinv.inb ha hb hgo hlt
          have hik := hin.1
          have hkl := hin.2
          clear hkb
          have hgo := Lib.hid hgo
          have hi2 : i + k < o2.length := by rw [HL.out]; exact hik
          obtain ⟨o, hoe⟩ : ∃ o, o2[i + k] = o := ⟨_, rfl⟩
          have ho : o < 1000000000 := by rw [← hoe]; exact hinv.2.1.at_ hi2
          have HOD := Lib.hid (show o2.getD (i + k) 0 = o by rw [← hoe]; simp [List.getD, hi2])
          have hcell : wr.cell? ⟨w.heap.size, i + k, none⟩ = some (.int .i64 (o : Int)) := by
            rw [hown.cellAt (i + k) (by omega), limI_at (by simp; omega), List.getElem_append_left hi2, hoe]
          have hf := hown.frozenAt (i + k)
          have HOW := Lib.hid hown
          have HS2 := Lib.hid (fun y : Nat => List.set_append_left (t := [0]) (i + k) y hi2)
          clear hown hinv hoe hi2 hin
          by_cases kb : k < b.length
          · obtain ⟨bd, rfl, hcb⟩ := (hrb.below hbr2).limbI kb
            obtain ⟨ad, rfl, hca⟩ := (hra.below hbr2).limbI hlt
            rw [HXE.out] at hca
            obtain ⟨y, hye⟩ : ∃ y, b[k] = y := ⟨_, rfl⟩
            have hy : y < 1000000000 := by rw [← hye]; exact hb.at_ kb
            have hyd : b.getD k 0 = y := by rw [← hye]; simp [List.getD, kb]
            rw [hye] at hcb
            have HN := Lib.hid (HI.out.next ha hb (hgo.out) hlt (s := o + c + x * y) (by rw [HOD.out, HXD.out, hyd]))
            clear hye hyd
            have hm := mul_le9 hx hy
            have hm0 : 0 ≤ (x : Int) * (y : Int) := Int.mul_nonneg (by omega) (by omega)
            have st := HOW.out.stored (i + k) (.int .i64 (((o + c + x * y) % 1000000000 : Nat) : Int))
            rw [limI_set, HS2.out] at st
            have HS := Lib.hid st.1
            have HB := Lib.hid (show Below w.heap.size w _ from hbr2.setCell (p := ⟨w.heap.size, i + k, none⟩) (Nat.le_refl _) (.int .i64 (((o + c + x * y) % 1000000000 : Nat) : Int)))
            clear st
            have ex : (((o + c + x * y) % 1000000000 : Nat) : Int) = ((o : Int) + (c : Int) + (x : Int) * (y : Int)) % 1000000000 := by simp
            rw [ex] at HS HB
            clear ex
            go_wp2
            go_quiet (fail)
            go_wp2
            go_roundw
            case rel => exact ⟨k + 1, (o + c + x * y) / 1000000000, _, by go_num, by simp, HN.out, HS.out, (hbr2.drewN _).setCell (p := ⟨w.heap.size, i + k, none⟩) (Nat.le_refl _) _⟩
            case measure => simp [intOf]; omega
          · have hyd : b.getD k 0 = 0 := by simp [List.getD, show b.length ≤ k by omega]
            have HN := Lib.hid (HI.out.next ha hb (hgo.out) hlt (s := o + c) (by rw [HOD.out, HXD.out, hyd]; simp))
            have hc0 : 0 < c := by have := hgo.out; omega
            clear hyd
            have st := HOW.out.stored (i + k) (.int .i64 (((o + c) % 1000000000 : Nat) : Int))
            rw [limI_set, HS2.out] at st
            have HS := Lib.hid st.1
            have HB := Lib.hid (show Below w.heap.size w _ from hbr2.setCell (p := ⟨w.heap.size, i + k, none⟩) (Nat.le_refl _) (.int .i64 (((o + c) % 1000000000 : Nat) : Int)))
            clear st
            have ex : (((o + c) % 1000000000 : Nat) : Int) = ((o : Int) + (c : Int)) % 1000000000 := by simp
            rw [ex] at HS HB
            clear ex
            go_wp2
            go_roundw
            case rel => exact ⟨k + 1, (o + c) / 1000000000, _, by go_num, by simp, HN.out, HS.out, HB.out⟩
            case measure => simp [intOf]; omega
        · have hc0 : c = 0 := by omega
          subst hc0
          have HT := Lib.hid (show TimesOut a b o2 (i + 1) from ⟨HL.out, hinv.2.1, hinv.done (by omega)⟩)
          have HOW := Lib.hid hown
          have hkl : b.length ≤ k := by omega
          clear hinv hown hgo
          go_wp2
          go_roundw
          case rel => exact ⟨i + 1, _, by omega, by go_num, HT.out, HOW.out, hbr2⟩
          case measure => simp [intOf]; omega
    · have hi0 : i = a.length := by omega
      have HV := Lib.hid (show val (out ++ [0]) = val a * val b by rw [val_app0, HTO.out.2.2, val_take_all (by omega)])
      have HS := Lib.hid (show Small (out ++ [0]) from HTO.out.2.1.snoc (by omega))
      have HLO := Lib.hid (show (out ++ [0]).length = (a.length + b.length + 1) by simp [HTO.out.1])
      have hr : Reads wr wr.heap.size 1 (some ⟨w.heap.size, 0, none⟩) (out ++ [0]).length (limI (out ++ [0])) := by
        have h := HOW0.out
        rw [← HLO.out] at h
        exact Reads.of_own h
      go_wp2_with fail
      have tr := rtrim_any (some ⟨w.heap.size, 0, none⟩) (out ++ [0]) (a.length + b.length + 1) wr.heap.size wr (by rw [HLO.out]; exact Nat.le_refl _) (by unfold maxLen; omega) hr
      rw [HLO.out] at tr
      refine tr.mono ?_
      clear tr
      rintro e w2 ⟨⟨m, hm, rfl, ht, hv⟩, rfl⟩
      have HR := Lib.hid (show RepI wr (a.length + b.length + 1) (.slice (some ⟨w.heap.size, 0, none⟩) m (a.length + b.length + 1)) (val a * val b) from repI_trim hr (by rw [HLO.out]; exact Nat.le_refl _) (by unfold maxLen; omega) (by rw [HLO.out]; exact hm) HS.out ht (hv.trans HV.out) hm)
      clear ht hv hr
      go_wp2
      go_ret
      exact ⟨⟨_, rfl, HR.out⟩, hbr⟩
theorem RepI.form {w : World} {L x : Nat} {v : Value} (h : RepI w L v x) : ∃ A n c, v = .slice A n c ∧ (0 < n ↔ 0 < x) ∧ n ≤ L := by
  obtain ⟨l, A, c, rfl, h2, h3, h4, h5, h6, h7, h8⟩ := h.ex
  refine ⟨A, l.length, c, rfl, ⟨fun h0 => ?_, fun h0 => val_pos_len (by omega)⟩, h8⟩
  have := val_ge h3 (by intro e; subst e; simp at h0)
  have := pow_pos (l.length - 1)
  omega
theorem RepI.nil_ {w : World} : RepI w 0 (.slice none 0 0) 0 := ⟨[], none, 0, rfl, Small.nil, fun h => absurd rfl h, rfl, Reads.none_, Nat.le_refl _, Nat.zero_le _, Nat.le_refl _⟩
/-- a natural lies in as few limbs as any list of limbs that is not less -/
theorem RepI.len {w : World} {L x : Nat} {v : Value} {a : List Nat} (h : RepI w L v x) (ha : Small a) (hx : x ≤ val a) : RepI w a.length v x := by
  obtain ⟨l, A, c, h1, h2, h3, h4, h5, h6, h7, h8⟩ := h.ex
  exact ⟨l, A, c, h1, h2, h3, h4, h5, h6, h7, len_of_le h3 ha (by omega)⟩
theorem RepI.bd {w : World} {L M x y : Nat} {v u : Value} (h : RepI w L v x) (hu : RepI w M u y) (hx : x ≤ y) : RepI w M v x := by
  obtain ⟨l, A, c, h1, h2, h3, h4, h5, h6, h7, h8⟩ := hu.ex
  exact (h.len h2 (by omega)).mono h8
theorem rplus_rep (w : World) (L M : Nat) (va vb : Value) (x y : Nat) (ha : RepI w L va x) (hb : RepI w M vb y) (hL : L ≤ 100000) (hM : M ≤ 100000) :
    Calls Tryz.prog 39 #[va, vb] w fun e w' => (∃ v, e = .returned v ∧ RepI w' (max L M + 1) v (x + y)) ∧ Below w.heap.size w w' := by
  obtain ⟨a, A, c, rfl, h2, h3, rfl, h5, h6, h7, h8⟩ := ha.ex
  obtain ⟨b, B', c', rfl, k2, k3, rfl, k5, k6, k7, k8⟩ := hb.ex
  refine (rplusL_any A B' a b c c' w h2 k2 (by omega) (by omega) h5 k5).mono ?_
  rintro e w' ⟨⟨v, rfl, hv⟩, hb⟩
  exact ⟨⟨v, rfl, hv.mono (by omega)⟩, hb⟩
theorem rminus_rep (w : World) (L M : Nat) (va vb : Value) (x y : Nat) (ha : RepI w L va x) (hb : RepI w M vb y) (hL : L ≤ 100000) (hle : y ≤ x) :
    Calls Tryz.prog 41 #[va, vb] w fun e w' => (∃ v, e = .returned v ∧ RepI w' L v (x - y)) ∧ Below w.heap.size w w' := by
  obtain ⟨a, A, c, rfl, h2, h3, rfl, h5, h6, h7, h8⟩ := ha.ex
  obtain ⟨b, B', c', rfl, k2, k3, rfl, k5, k6, k7, k8⟩ := hb.ex
  refine (rminusL_any A B' a b c c' w h2 k2 (by omega) (len_of_le k3 h2 hle) hle h5 k5).mono ?_
  rintro e w' ⟨⟨v, rfl, hv⟩, hb⟩
  exact ⟨⟨v, rfl, hv.mono h8⟩, hb⟩
theorem rtimes_rep (w : World) (L M : Nat) (va vb : Value) (x y : Nat) (ha : RepI w L va x) (hb : RepI w M vb y) (hL : L ≤ 100000) (hM : M ≤ 100000) :
    Calls Tryz.prog 38 #[va, vb] w fun e w' => (∃ v, e = .returned v ∧ RepI w' (L + M + 1) v (x * y)) ∧ Below w.heap.size w w' := by
  obtain ⟨a, A, c, rfl, h2, h3, rfl, h5, h6, h7, h8⟩ := ha.ex
  obtain ⟨b, B', c', rfl, k2, k3, rfl, k5, k6, k7, k8⟩ := hb.ex
  refine (rtimesL_any A B' a b c c' w h2 k2 (by omega) (by omega) h5 k5).mono ?_
  rintro e w' ⟨⟨v, rfl, hv⟩, hb⟩
  exact ⟨⟨v, rfl, hv.mono (by omega)⟩, hb⟩
theorem rorder_rep (w : World) (L M : Nat) (va vb : Value) (x y : Nat) (ha : RepI w L va x) (hb : RepI w M vb y) (hL : L ≤ 100000) (hM : M ≤ 100000) :
    Calls Tryz.prog 40 #[va, vb] w fun e w' => e = .returned (.int .i64 (ordI x y)) ∧ Below w.heap.size w w' := by
  obtain ⟨a, A, c, rfl, h2, h3, rfl, h5, h6, h7, h8⟩ := ha.ex
  obtain ⟨b, B', c', rfl, k2, k3, rfl, k5, k6, k7, k8⟩ := hb.ex
  exact rorderL_any A B' a b c c' w h2 k2 h3 k3 (by unfold maxLen; omega) (by unfold maxLen; omega) h5 k5
end Go.Proofs.YtmpelpmhbadjoaaGreatDoor
