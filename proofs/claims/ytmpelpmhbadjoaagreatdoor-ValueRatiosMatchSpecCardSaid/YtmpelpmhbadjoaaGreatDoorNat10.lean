/- The naturals by what they stand for: contracts over Rep; gcd. -/
import Derived.Test.YtmpelpmhbadjoaaGreatDoorNat9
import Derived.Deep.LoopGhost
namespace Go.Proofs.YtmpelpmhbadjoaaGreatDoor
open Go.RowKit Limb

theorem Rep.form {w : World} {L x : Nat} {v : Value} (h : Rep w L v x) : ∃ A n c, v = .slice A n c ∧ (0 < n ↔ 0 < x) ∧ n ≤ L := by
  obtain ⟨l, A, c, rfl, h2, h3, h4, h5, h6, h7, h8⟩ := h.ex
  refine ⟨A, l.length, c, rfl, ⟨fun h0 => ?_, fun h0 => val_pos_len (by omega)⟩, h8⟩
  have := val_ge h3 (by intro e; subst e; simp at h0)
  have := pow_pos (l.length - 1)
  omega
theorem over_rep (w : World) (L M : Nat) (va vb : Value) (x y : Nat) (ha : Rep w L va x) (hb : Rep w M vb y) (hL : L ≤ 100000) (hM : M ≤ 100000) (hy : 0 < y) :
    Calls Tryz.prog 71 #[va, vb] w fun e w' => (∃ q r, e = .returned (.tuple #[q, r]) ∧ Rep w' L q (x / y) ∧ Rep w' L r (x % y)) ∧ Below w.heap.size w w' := by
  obtain ⟨a, A, c, rfl, h2, h3, rfl, h5, h6, h7, h8⟩ := ha.ex
  obtain ⟨b, B', c', rfl, k2, k3, rfl, k5, k6, k7, k8⟩ := hb.ex
  refine (overL_any A B' a b c c' w h2 k2 h3 k3 (by omega) (by omega) h6 h7 hy h5 k5).mono ?_
  rintro e w' ⟨⟨q, r, rfl, hq, hr⟩, hb⟩
  exact ⟨⟨q, r, rfl, hq.mono h8, hr.mono h8⟩, hb⟩
theorem plus_rep (w : World) (L M : Nat) (va vb : Value) (x y : Nat) (ha : Rep w L va x) (hb : Rep w M vb y) (hL : L ≤ 100000) (hM : M ≤ 100000) :
    Calls Tryz.prog 66 #[va, vb] w fun e w' => (∃ v, e = .returned v ∧ Rep w' (max L M + 1) v (x + y)) ∧ Below w.heap.size w w' := by
  obtain ⟨a, A, c, rfl, h2, h3, rfl, h5, h6, h7, h8⟩ := ha.ex
  obtain ⟨b, B', c', rfl, k2, k3, rfl, k5, k6, k7, k8⟩ := hb.ex
  refine (plusL_any A B' a b c c' w h2 k2 (by omega) (by omega) h5 k5).mono ?_
  rintro e w' ⟨⟨v, rfl, hv⟩, hb⟩
  exact ⟨⟨v, rfl, hv.mono (by omega)⟩, hb⟩
theorem minus_rep (w : World) (L M : Nat) (va vb : Value) (x y : Nat) (ha : Rep w L va x) (hb : Rep w M vb y) (hL : L ≤ 100000) (_hM : M ≤ 100000) (hle : y ≤ x) :
    Calls Tryz.prog 67 #[va, vb] w fun e w' => (∃ v, e = .returned v ∧ Rep w' L v (x - y)) ∧ Below w.heap.size w w' := by
  obtain ⟨a, A, c, rfl, h2, h3, rfl, h5, h6, h7, h8⟩ := ha.ex
  obtain ⟨b, B', c', rfl, k2, k3, rfl, k5, k6, k7, k8⟩ := hb.ex
  refine (minusL_any A B' a b c c' w h2 k2 (by omega) (len_of_le k3 h2 hle) hle h5 k5).mono ?_
  rintro e w' ⟨⟨v, rfl, hv⟩, hb⟩
  exact ⟨⟨v, rfl, hv.mono h8⟩, hb⟩
theorem times_rep (w : World) (L M : Nat) (va vb : Value) (x y : Nat) (ha : Rep w L va x) (hb : Rep w M vb y) (hL : L ≤ 100000) (hM : M ≤ 100000) :
    Calls Tryz.prog 42 #[va, vb] w fun e w' => (∃ v, e = .returned v ∧ Rep w' (L + M) v (x * y)) ∧ Below w.heap.size w w' := by
  obtain ⟨a, A, c, rfl, h2, h3, rfl, h5, h6, h7, h8⟩ := ha.ex
  obtain ⟨b, B', c', rfl, k2, k3, rfl, k5, k6, k7, k8⟩ := hb.ex
  refine (timesL_any A B' a b c c' w h2 k2 (by omega) (by omega) h5 k5).mono ?_
  rintro e w' ⟨⟨v, rfl, hv⟩, hb⟩
  exact ⟨⟨v, rfl, hv.mono (by omega)⟩, hb⟩
theorem compare_rep (w : World) (L M : Nat) (va vb : Value) (x y : Nat) (ha : Rep w L va x) (hb : Rep w M vb y) (hL : L ≤ 100000) (hM : M ≤ 100000) :
    Calls Tryz.prog 65 #[va, vb] w fun e w' => e = .returned (.int .i64 (ordI x y)) ∧ Below w.heap.size w w' := by
  obtain ⟨a, A, c, rfl, h2, h3, rfl, h5, h6, h7, h8⟩ := ha.ex
  obtain ⟨b, B', c', rfl, k2, k3, rfl, k5, k6, k7, k8⟩ := hb.ex
  exact compareL_any A B' a b c c' w h2 k2 h3 k3 (by unfold maxLen; omega) (by unfold maxLen; omega) h5 k5
set_option maxRecDepth 100000 in
set_option maxHeartbeats 1000000 in
theorem gcd_rep (w : World) (L : Nat) (va vb : Value) (x y : Nat) (ha : Rep w L va x) (hb : Rep w L vb y) (hL : L ≤ 100000) :
    Calls Tryz.prog 58 #[va, vb] w fun e w' => (∃ v, e = .returned v ∧ Rep w' L v (Nat.gcd x y)) ∧ Below w.heap.size w w' := by
  go_enter Tryz.func58, Tryz.ntmps58
  go_wp2
  go_loopg [0, 1, 5, 6] y (fun k va vb _ _ wr => ∃ x', Rep wr L va x' ∧ Rep wr L vb k ∧ Nat.gcd x' k = Nat.gcd x y ∧ Below w.heap.size w wr)
  case atStart => exact ⟨x, ha, hb, rfl, Below.refl _ _⟩
  case round =>
    obtain ⟨x', hx, hy, hg, hbr⟩ := hrel
    have HX := Lib.hid hx
    have HY := Lib.hid hy
    have HG := Lib.hid hg
    obtain ⟨A, n, c, rfl, hn, hnL⟩ := hy.form
    clear hx hy hg ha hb
    by_cases h0 : 0 < n
    · have hk := hn.1 h0
      clear hn
      go_wp2_with fail
      refine (over_rep wr L L _ _ x' gk HX.out HY.out hL hL hk).mono ?_
      rintro e w2 ⟨⟨q, r, rfl, hq, hr⟩, hb2⟩
      have HR := Lib.hid hr
      have HY2 := Lib.hid (HY.out.below hb2)
      have HB2 := Lib.hid (hbr.trans (hb2.mono hbr.size))
      clear hq hr
      go_wp2
      go_roundg (x' % gk)
      case measure => exact Nat.mod_lt _ hk
      case rel => exact ⟨gk, HY2.out, HR.out, by rw [← HG.out, Nat.gcd_comm x' gk, Nat.gcd_rec gk x', Nat.gcd_comm], HB2.out⟩
    · have hk : gk = 0 := by
        have := hn
        omega
      subst hk
      have HF := Lib.hid (show x' = Nat.gcd x y by rw [← HG.out, Nat.gcd_zero_right])
      clear hn
      go_wp2
      go_ret
      exact ⟨⟨_, rfl, HF.out ▸ HX.out⟩, hbr⟩
end Go.Proofs.YtmpelpmhbadjoaaGreatDoor
