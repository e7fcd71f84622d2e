/- The walks of the naturals: short. -/
import Derived.Test.YtmpelpmhbadjoaaGreatDoorNat4
import Derived.RegionTactic
namespace Go.Proofs.YtmpelpmhbadjoaaGreatDoor
open Go.RowKit Limb

def ShortInv (a outR : List Nat) (d m rest : Nat) : Prop := outR.length + m = a.length ∧ Small outR ∧ rest < d ∧ val (a.drop m) = val outR * d + rest
theorem val_drop {l : List Nat} {k : Nat} (h : k < l.length) : val (l.drop k) = l[k] + 1000000000 * val (l.drop (k + 1)) := by
  rw [List.drop_eq_getElem_cons h, val]
theorem ShortInv.next {a outR : List Nat} {d m rest : Nat} (h : ShortInv a outR d (m + 1) rest) {x s : Nat} (hx : a.getD m 0 = x) (hx1 : x < 1000000000) (hs : s = rest * 1000000000 + x) :
    ShortInv a (s / d :: outR) d m (s % d) := by
  obtain ⟨h1, h2, h3, h4⟩ := h
  have hm : m < a.length := by omega
  have hd : 0 < d := by omega
  have hq : s / d < 1000000000 := by
    rw [Nat.div_lt_iff_lt_mul hd]
    have : (rest + 1) * 1000000000 ≤ d * 1000000000 := Nat.mul_le_mul_right _ h3
    rw [Nat.mul_comm d] at this
    rw [Nat.add_mul] at this
    omega
  refine ⟨by simp; omega, fun y hy => ?_, Nat.mod_lt _ hd, ?_⟩
  · rcases List.mem_cons.1 hy with rfl | hy
    · exact hq
    · exact h2 y hy
  · rw [val_drop hm, h4, val]
    have e : a[m] = x := by rw [← hx]; simp [List.getD, hm]
    have e2 := Nat.div_add_mod s d
    rw [e, Nat.add_mul, Nat.mul_assoc, Nat.mul_comm (s / d)]
    omega
theorem ShortInv.done {a outR : List Nat} {d rest : Nat} (h : ShortInv a outR d 0 rest) : val outR = val a / d ∧ rest = val a % d := by
  obtain ⟨h1, h2, h3, h4⟩ := h
  rw [List.drop_zero] at h4
  have hd : 0 < d := by omega
  rw [h4, Nat.add_comm, Nat.add_mul_div_right _ _ hd, Nat.add_mul_mod_self_right, Nat.div_eq_of_lt h3, Nat.mod_eq_of_lt h3]
  omega
theorem set_down (outR : List Nat) (m x : Nat) : (List.replicate (m + 1) 0 ++ outR).set m x = List.replicate m 0 ++ x :: outR := by
  induction m with
  | zero => simp
  | succ m ih =>
    rw [List.replicate_succ, List.cons_append, List.set_cons_succ, ih, List.replicate_succ, List.cons_append]
theorem wrap_u64_nat {n : Nat} (h : n < 18446744073709551616) : IntKind.u64.wrap (n : Int) = (n : Int) := by
  simp [IntKind.wrap, IntKind.signed, IntKind.bits]; omega
set_option maxRecDepth 100000 in
set_option maxHeartbeats 2000000 in
theorem shortL_any (A1 : Option Addr) (a : List Nat) (c1 d : Nat) (w : World) (ha : Small a) (hla : a.length ≤ 1000000) (hd0 : 0 < d) (hd1 : d < 1000000000) (hra : Reads w w.heap.size 1 A1 a.length (limV a)) :
    Calls Tryz.prog 88 #[.slice A1 a.length c1, .int .u64 (d : Int)] w fun e w' => (∃ v, e = .returned (.tuple #[v, .int .u64 ((val a % d : Nat) : Int)]) ∧ Rep w' a.length v (val a / d)) ∧ Below w.heap.size w w' := by
  obtain ⟨i0, hi, hz0, hz1, hz2⟩ := info_parts infoU
  go_enter Tryz.func88, Tryz.ntmps88
  go_wp2_with (at_make; refine wpList_make_full _ rfl _ _ 42 rfl w.heap.size 44 i0 (.int .u64 0) 1 Tryz.underlying42 hi hz0 hz1 .i64 .i64 (a.length : Int) (a.length : Int) a.length rfl rfl rfl rfl ?c1 ?c2 ?c3 ?_)
  case c1 => rw [hz2]; omega
  case c2 => unfold maxLen; omega
  case c3 => exact Nat.le_refl _
  intro w1 hown hg1
  have hb1 : Below w.heap.size w w1 := (Below.refl _ _).grown hg1 (Nat.le_refl _) (fun g hg => by cases hg)
  have hown1 : w1.ownsRow w.heap.size 44 1 (.slice (some ⟨w.heap.size, 0, none⟩) a.length a.length) a.length (limV (List.replicate a.length 0 ++ [])) := by
    rw [List.append_nil, limV_zeros, ← toList_madeCells_one, ← Nat.mul_one a.length]
    simpa using hown
  have HO := Lib.hid hown1
  have HI0 := Lib.hid (show ShortInv a [] d a.length 0 from ⟨by simp, Small.nil, hd0, by simp [val]⟩)
  clear hown hg1 hown1
  go_wp2
  go_loopw [8, 7, 9] (fun i rr _ wr => ∃ (m rest : Nat) (outR : List Nat), m ≤ a.length ∧ i = .int .i64 ((m : Int) - 1) ∧ rr = .int .u64 (rest : Int) ∧ ShortInv a outR d m rest ∧ wr.ownsRow w.heap.size 44 1 (.slice (some ⟨w.heap.size, 0, none⟩) a.length a.length) a.length (limV (List.replicate m 0 ++ outR)) ∧ Below w.heap.size w wr) (fun i _ _ _ => (intOf i + 1).toNat)
  case atStart => exact ⟨a.length, 0, [], Nat.le_refl _, rfl, rfl, HI0.out, HO.out, hb1⟩
  case round =>
    obtain ⟨m, rest, outR, hml, rfl, rfl, hinv, hown, hbr⟩ := hrel
    clear HO hb1 HI0
    have hrd : rest < d := hinv.2.2.1
    have HI := Lib.hid hinv
    clear hinv
    by_cases h0 : 0 < m
    · obtain ⟨i, rfl⟩ : ∃ i, m = i + 1 := ⟨m - 1, by omega⟩
      have ec : ((i + 1 : Nat) : Int) - 1 = (i : Int) := by omega
      rw [ec]
      have hlt : i < a.length := by omega
      obtain ⟨ad, rfl, hca⟩ := (hra.below hbr).limb hlt
      obtain ⟨x, hxe⟩ : ∃ x, a[i] = x := ⟨_, rfl⟩
      have hx : x < 1000000000 := by rw [← hxe]; exact ha.at_ hlt
      have HXD := Lib.hid (show a.getD i 0 = x by rw [← hxe]; simp [List.getD, hlt])
      rw [hxe] at hca
      clear hxe
      have hcell : ∃ u, wr.cell? ⟨w.heap.size, i, none⟩ = some u := by
        rw [hown.cellAt i (by omega)]
        exact ⟨_, List.getElem?_eq_getElem (by rw [limV_len]; simp; omega)⟩
      obtain ⟨u, hu⟩ := hcell
      have hf := hown.frozenAt i
      have hsz : w.heap.size < wr.heap.size := block_lt_of_cell hu
      have HOW := Lib.hid hown
      clear hown
      have HN := Lib.hid (HI.out.next HXD.out hx rfl)
      have hq2 : (rest * 1000000000 + x) / d < 1000000000 := HN.out.2.1 _ (List.mem_cons_self ..)
      have hw : ((rest : Int) * 1000000000 + (x : Int)) / (d : Int) = (((rest * 1000000000 + x) / d : Nat) : Int) := by simp
      have hm : ((rest : Int) * 1000000000 + (x : Int)) % (d : Int) = (((rest * 1000000000 + x) % d : Nat) : Int) := by simp
      have hdi : (d : Int) ≠ 0 := by omega
      have HQ := Lib.hid hw
      have HM := Lib.hid hm
      clear hw hm hq2
      go_wp2_with fail
      go_region
      rw [HQ.out, HM.out]
      have st := HOW.out.stored i (.int .u64 (((rest * 1000000000 + x) / d : Nat) : Int))
      rw [limV_set, set_down] at st
      have HS := Lib.hid st.1
      have HB := Lib.hid (show Below w.heap.size w _ from hbr.setCell (p := ⟨w.heap.size, i, none⟩) (Nat.le_refl _) (.int .u64 (((rest * 1000000000 + x) / d : Nat) : Int)))
      clear st
      go_wp2
      go_roundw
      case rel => exact ⟨i, (rest * 1000000000 + x) % d, _, by omega, by go_num, rfl, HN.out, HS.out, HB.out.drew⟩
      case measure => simp [intOf]
    · obtain rfl : m = 0 := by omega
      have hd := HI.out.done
      have HV := Lib.hid hd.1
      have HS := Lib.hid HI.out.2.1
      have hlo : outR.length = a.length := HI.out.1
      have HLO := Lib.hid hlo
      have hr : Reads wr wr.heap.size 1 (some ⟨w.heap.size, 0, none⟩) outR.length (limV outR) := by
        have h := hown
        rw [← HLO.out] at h
        exact Reads.of_own h
      rw [hd.2]
      clear hlo hd hown
      go_wp2_with fail
      have tr := trim_any (some ⟨w.heap.size, 0, none⟩) outR a.length wr.heap.size wr (by rw [HLO.out]; exact Nat.le_refl _) (by unfold maxLen; omega) hr
      rw [HLO.out] at tr
      refine tr.mono ?_
      clear tr
      rintro e w2 ⟨⟨m, hm, rfl, ht, hv⟩, rfl⟩
      have HR := Lib.hid (show Rep wr a.length (.slice (some ⟨w.heap.size, 0, none⟩) m a.length) (val a / d) from rep_trim hr (by rw [HLO.out]; exact Nat.le_refl _) (by unfold maxLen; omega) (by rw [HLO.out]; exact hm) HS.out ht (hv.trans HV.out) hm)
      clear ht hv hr
      go_wp2
      go_ret2
      exact ⟨⟨_, rfl, HR.out⟩, hbr⟩
end Go.Proofs.YtmpelpmhbadjoaaGreatDoor
