/- The walks of 'Shuffle' of both packages. No condition. -/
import Derived.Test.YtfkgodgjchbbpaaChance
import Derived.OpenShut
import Derived.RegionTactic
namespace Go.Proofs.Ytfkgodgjchbbpaa
open Go.RowKit

def swapAt (l : List Int) (i j : Nat) : List Int := (l.set i (l.getD j 0)).set j (l.getD i 0)
def jAt (s : ByteArray) (n k : Nat) : Nat := (drawS s k % (((n - 1 - k : Nat) : Int) + 1)).toNat
def shufL (s : ByteArray) (n : Nat) : Nat → List Int
  | 0 => (List.range n).map Int.ofNat
  | k + 1 => swapAt (shufL s n k) (n - 1 - k) (jAt s n k)
theorem swapAt_len (l : List Int) (i j : Nat) : (swapAt l i j).length = l.length := by simp [swapAt]
theorem shufL_len (s : ByteArray) (n k : Nat) : (shufL s n k).length = n := by
  induction k with
  | zero => simp [shufL]
  | succ k ih => rw [shufL, swapAt_len, ih]
theorem range_succ_int (k : Nat) : (List.range (k + 1)).map Int.ofNat = (List.range k).map Int.ofNat ++ [(k : Int)] := by rw [List.range_succ, List.map_append]; rfl

theorem numV_getD (κ : IntKind) (l : List Int) (k : Nat) (h : k < l.length) : (numV κ l)[k]? = some (.int κ (l.getD k 0)) := by
  unfold numV
  rw [List.getElem?_map, List.getElem?_eq_getElem h]
  simp [List.getD, h]
theorem drawS_nonneg (s : ByteArray) (k : Nat) : 0 ≤ drawS s k := by
  have h := wf_bits BinOp.xor IntKind.u64 (mix2 (mix1 (nextS (stS (hashS s) k)))) (mix2 (mix1 (nextS (stS (hashS s) k))) / 2147483648)
  have h0 : IntKind.u64.min = 0 := rfl
  simp only [Lit.wf, Bool.and_eq_true, decide_eq_true_eq, h0] at h
  exact h.1
theorem jat_ok (s : ByteArray) (n t i : Nat) (h : i + t + 1 = n) (hi : i ≤ 10000) : ∃ q : Nat, wrap64 ((outF (stS (hashS s) t)).tmod (↑i + 1)) = (q : Int) ∧ q ≤ i ∧ q = jAt s n t := by
  have h0 := drawS_nonneg s t
  have e : (outF (stS (hashS s) t)).tmod ((i : Int) + 1) = drawS s t % ((i : Int) + 1) := by
    show (drawS s t).tmod _ = _
    rw [Int.tmod_eq_emod_of_nonneg h0]
  have h1 := Int.emod_nonneg (drawS s t) (show (i : Int) + 1 ≠ 0 by omega)
  have h2 := Int.emod_lt_of_pos (drawS s t) (show (0 : Int) < (i : Int) + 1 by omega)
  refine ⟨jAt s n t, ?_, ?_, rfl⟩
  · rw [e]
    unfold jAt
    rw [show n - 1 - t = i from by omega]
    obtain ⟨x, hx⟩ : ∃ x, drawS s t % ((i : Int) + 1) = x := ⟨_, rfl⟩
    rw [hx] at h1 h2 ⊢
    unfold wrap64
    omega
  · unfold jAt
    rw [show n - 1 - t = i from by omega]
    omega
set_option maxHeartbeats 800000 in
theorem Shuffle_in (s : ByteArray) (n : Nat) (w : World) (hs : s.size ≤ maxLen) (hn : n ≤ 10000) :
    Calls Try.prog 13 #[.string s, .int .i64 n] w fun e w' => ∃ v, e = .returned (.tuple #[v, .int .i64 0]) ∧ w'.ownsRow w.heap.size 3 1 v n (numV .i64 (shufL s n (n - 1))) ∧ Below w.heap.size w w' := by
  have b1 : outB (n : Int) 0 10000 = false := outB_false (by omega) (by omega)
  obtain ⟨i0, hi0, hz0, hz1, hz2⟩ := info_parts infoI
  go_enter Try.func13, Try.ntmps13
  go_wp2_with (go_at_call 31; refine (outside_any _ _ _ _).mono ?_; rintro e w' ⟨rfl, rfl⟩)
  refine (source_any _ _ hs).mono ?_
  rintro e w1 ⟨rfl, hcell, hb⟩
  have hsz : w.heap.size < w1.heap.size := by
    rcases Nat.lt_or_ge w.heap.size w1.heap.size with h | h
    · exact h
    · rw [Array.getElem?_eq_none h] at hcell; cases hcell
  have HC := Lib.hid hcell
  clear hcell b1
  go_wp2
  go_loopw [16, 8, 7] (fun i _ v wr => ∃ k : Nat, k ≤ n ∧ i = .int .i64 k ∧ wr.ownsRow (w.heap.size + 1) 3 1 v k (numV .i64 ((List.range k).map Int.ofNat)) ∧ wr.heap[w.heap.size]? = some (.cells #[.int .u64 (hashS s)] 35 (0, 0)) ∧ Below w.heap.size w wr ∧ w.heap.size < wr.heap.size) (fun i _ _ _ => n - (intOf i).toNat)
  case atStart => exact ⟨0, Nat.zero_le _, rfl, World.ownsRow_nil _ _ _ _, HC.out, hb, hsz⟩
  case round =>
    obtain ⟨k, hk, rfl, hown, hcell, hbr, hsr⟩ := hrel
    clear HC hb hsz
    have HC := Lib.hid hcell
    clear hcell
    by_cases hlt : k < n
    · go_wp2_with (at_builtin; refine wpList_append_own _ rfl _ _ 22 rfl (w.heap.size + 1) 3 i0 (.int .i64 0) 1 8 Try.underlying22 hi0 hz0 hz1 hz2 rfl (by decide) _ _ _ rfl (hown.alloc _) ⟨wr.heap.size, 0, none⟩ 1 1 [.int .i64 k] rfl rfl ?c1 ?c2 ?c3 ?c4 ?c5 ?_)
      case c1 => intro j u hj; cases j <;> simp_all [go_sem]
      case c2 => intro u hu; simp only [List.mem_singleton] at hu; subst hu; rfl
      case c3 => unfold maxLen; omega
      case c4 => omega
      case c5 => simp; omega
      intro v2 w2 hown2 hg2 _
      have hrow : ∀ g, u7.ownBlock = some g → w.heap.size + 1 ≤ g := fun g hg => (hown.lt g hg).1
      have hcell2 : w2.heap[w.heap.size]? = some (.cells #[.int .u64 (hashS s)] 35 (0, 0)) := by
        rw [hg2.block _ (by simp; omega) (fun e => by have := hrow _ e.symm; omega), Below.heap_alloc _ _ _ hsr]
        exact HC.out
      have hb2 : Below w.heap.size w w2 := (hbr.alloc (by omega) _).grown hg2 (by simp; omega) (fun g hg => by have := hrow g hg; omega)
      have hs2 : w.heap.size < w2.heap.size := by have := hg2.size; simp at this; omega
      have HO := Lib.hid (show w2.ownsRow (w.heap.size + 1) 3 1 v2 (k + 1) (numV .i64 ((List.range (k + 1)).map Int.ofNat)) by rw [range_succ_int, numV_append]; exact hown2)
      have HX := Lib.hid hcell2
      clear hown2 hcell2 hg2 hrow hown
      go_wp2
      go_roundw
      case rel => exact ⟨k + 1, by omega, by go_num, HO.out, HX.out, hb2, hs2⟩
      case measure => simp [intOf]; omega
    obtain rfl : k = n := by omega
    by_cases hk2 : 2 ≤ k
    · obtain ⟨g, cap, hv, hg, hgl⟩ := hown.form (by omega)
      rw [hv] at hown ⊢
      clear hv
      have HO := Lib.hid hown
      clear hown
      go_wp2
      go_loopw [9, 10] (fun i _ wq => ∃ t i' : Nat, i' + t + 1 = k ∧ i = .int .i64 i' ∧ wq.ownsRow (w.heap.size + 1) 3 1 (.slice (some ⟨g, 0, none⟩) k cap) k (numV .i64 (shufL s k t)) ∧ wq.heap[w.heap.size]? = some (.cells #[.int .u64 (stS (hashS s) t)] 35 (0, 0)) ∧ Below w.heap.size w wq ∧ w.heap.size < wq.heap.size) (fun i _ _ => (intOf i).toNat)
      case atStart => exact ⟨0, k - 1, by omega, by rw [show ((k - 1 : Nat) : Int) = (k : Int) - 1 from by omega], HO.out, HC.out, hbr, hsr⟩
      case round =>
        obtain ⟨t, i, hit, rfl, hown, hcell, hbq, hsq⟩ := hrel
        clear HC HO hbr hsr hgl
        have c0 := cell_of_one hcell
        have f0 := free_of_one hcell
        have HCX := Lib.hid (heap_setCell_same _ _ 0 _ _ (.int .u64 (nextS (stS (hashS s) t))) hcell)
        clear hcell
        have hit' : i + t + 1 ≤ k := by omega
        have HIT := Lib.hid hit
        clear hit
        by_cases hlt2 : 1 ≤ i
        · obtain ⟨q, hq1, hq2, hq3⟩ := jat_ok s k t i HIT.out (by omega)
          have HQ := Lib.hid hq1
          have HQ3 := Lib.hid hq3
          clear hq1 hq3
          have own1 := ownsRow_setCell_below hown (show (⟨w.heap.size, 0, none⟩ : Addr).block < w.heap.size + 1 from Nat.lt_succ_self _) (.int .u64 (nextS (stS (hashS s) t)))
          clear hown
          have hlen := shufL_len s k t
          have hci := own1.cellAt i (by omega)
          have hcq := own1.cellAt q (by omega)
          rw [numV_getD _ _ _ (by omega)] at hci hcq
          have hf := fun j => own1.frozenAt j
          have OWN := Lib.hid own1
          clear own1 hlen
          go_wp2_with (go_at_call 47; refine (closure_any _ _ _ c0 f0).mono ?_; rintro e w' ⟨rfl, rfl⟩)
          rw [HQ.out]
          obtain ⟨W1, hW1⟩ : ∃ W1, W1 = wr.setCell ⟨w.heap.size, 0, none⟩ (.int .u64 (nextS (stS (hashS s) t))) := ⟨_, rfl⟩
          rw [← hW1] at hci hcq hf ⊢
          have HW1 := Lib.hid hW1
          have OWN1 := Lib.hid (show W1.ownsRow (w.heap.size + 1) 3 1 (.slice (some ⟨g, 0, none⟩) k cap) k (numV .i64 (shufL s k t)) from hW1 ▸ OWN.out)
          clear hW1 c0 f0
          obtain ⟨v', hy'⟩ := cell?_setCell_some (w := W1) (p := ⟨g, i, none⟩) (x := .int .i64 ((shufL s k t)[q]?.getD 0)) (q := ⟨g, q, none⟩) (v := .int .i64 ((shufL s k t).getD q 0)) hcq
          go_region
          go_wp2
          have st1 := (World.ownsRow.stored OWN1.out i (.int .i64 ((shufL s k t).getD q 0)))
          have st2 := World.ownsRow.stored st1.1 q (.int .i64 ((shufL s k t).getD i 0))
          have hbW : Below w.heap.size w W1 := by rw [HW1.out]; exact hbq.setCell (Nat.le_refl _) _
          have hsW : w.heap.size < W1.heap.size := by rw [HW1.out]; simpa using hsq
          have hb3 : Below w.heap.size w _ := (hbW.setCell (p := ⟨g, i, none⟩) (by show w.heap.size ≤ g; omega) (.int .i64 ((shufL s k t).getD q 0))).setCell (p := ⟨g, q, none⟩) (by show w.heap.size ≤ g; omega) (.int .i64 ((shufL s k t).getD i 0))
          have hc3 : ((W1.setCell ⟨g, i, none⟩ (.int .i64 ((shufL s k t).getD q 0))).setCell ⟨g, q, none⟩ (.int .i64 ((shufL s k t).getD i 0))).heap[w.heap.size]? = some (.cells #[.int .u64 (stS (hashS s) (t + 1))] 35 (0, 0)) := by
            rw [Below.heap_setCell _ _ _ _ (by show w.heap.size ≠ g; omega), Below.heap_setCell _ _ _ _ (by show w.heap.size ≠ g; omega), HW1.out]
            exact HCX.out
          have ho3 : ((W1.setCell ⟨g, i, none⟩ (.int .i64 ((shufL s k t).getD q 0))).setCell ⟨g, q, none⟩ (.int .i64 ((shufL s k t).getD i 0))).ownsRow (w.heap.size + 1) 3 1 (.slice (some ⟨g, 0, none⟩) k cap) k (numV .i64 (shufL s k (t + 1))) := by
            have e : numV .i64 (shufL s k (t + 1)) = ((numV .i64 (shufL s k t)).set i (.int .i64 ((shufL s k t).getD q 0))).set q (.int .i64 ((shufL s k t).getD i 0)) := by
              rw [shufL, ← HQ3.out, show k - 1 - t = i from by have := HIT.out; omega]
              simp [numV, swapAt, List.map_set]
            rw [e]
            exact st2.1
          have H1 := Lib.hid ho3
          have H2 := Lib.hid hc3
          have H3 := Lib.hid hb3
          clear ho3 hc3 hb3 st1 st2
          go_roundw
          case rel => exact ⟨t + 1, i - 1, by have := HIT.out; omega, by rw [show ((i - 1 : Nat) : Int) = (i : Int) - 1 from by omega], H1.out, H2.out, H3.out.drew, by simpa using hsW⟩
          case measure => simp [intOf]; omega
        · have h0 : i = 0 := by omega
          have ht : t = k - 1 := by have := HIT.out; omega
          have HO := Lib.hid (show wr.ownsRow (w.heap.size + 1) 3 1 (.slice (some ⟨g, 0, none⟩) k cap) k (numV .i64 (shufL s k (k - 1))) from ht ▸ hown)
          clear hown ht h0 c0 f0
          go_wp2
          go_ret2
          refine ⟨_, rfl, ?_, hbq⟩
          obtain ⟨h1, h2⟩ := HO.out
          exact ⟨h1, h2.imp id fun ⟨g, cap, cur, e1, e2, e3⟩ => ⟨g, cap, cur, e1, by omega, e3⟩⟩
    · have e : numV .i64 ((List.range k).map Int.ofNat) = numV .i64 (shufL s k (k - 1)) := by
        rw [show k - 1 = 0 from by omega]; rfl
      rw [e] at hown
      have HO := Lib.hid hown
      clear hown e
      have HC1 := Lib.hid hk2
      by_cases h0 : k = 0
      all_goals
        have hk3 : k ≤ 1 := by omega
        clear hk2
        go_wp2
        refine wp_loop_rounds 1 ?_
        rw [rounds_succ]
        go_wp2
        go_ret2
        refine ⟨_, rfl, ?_, hbr⟩
        obtain ⟨h1, h2⟩ := HO.out
        exact ⟨h1, h2.imp id fun ⟨g, cap, cur, e1, e2, e3⟩ => ⟨g, cap, cur, e1, by omega, e3⟩⟩

theorem Shuffle_off (s : ByteArray) (n : Int) (w : World) (h : n < 0 ∨ 10000 < n) :
    Calls Try.prog 13 #[.string s, .int .i64 n] w fun e w' => e = .returned (.tuple #[.slice none 0 0, .int .i64 1]) ∧ w = w' := by
  have b1 : outB n 0 10000 = true := outB_true h
  clear h
  go_enter Try.func13, Try.ntmps13
  go_wp2_with (go_at_call 31; refine (outside_any _ _ _ _).mono ?_; rintro e w' ⟨rfl, rfl⟩)
  go_ret2
  exact ⟨rfl, rfl⟩
theorem RShuffle_off (s : ByteArray) (n : Int) (w : World) (h : n < 0 ∨ 10000 < n) :
    Calls Try.prog 14 #[.string s, .int .i64 n] w fun e w' => e = .returned (.tuple #[.slice none 0 0, .int .i64 1]) ∧ w = w' := by
  have HO := Lib.hid h
  clear h
  go_enter Try.func14, Try.ntmps14
  go_wp2_with (go_at_call 12; refine (RStream_off _ _ _ HO.out).mono ?_; rintro e w' ⟨rfl, rfl⟩)
  go_ret2
  exact ⟨rfl, rfl⟩
theorem streamL_get (s : ByteArray) (n t : Nat) (h : t < n) : (numV .u64 (streamL s n))[t]? = some (.int .u64 (outF (stS (hashS s) t))) := by
  simp [numV, streamL, h, drawS]
theorem own_back {w : World} {B B' : Nat} {e : TypeId} {v : Value} {n : Nat} {xs : List Value} (h : w.ownsRow B e 1 v n xs) (hB : B' ≤ B) : w.ownsRow B' e 1 v n xs := by
  obtain ⟨h1, h2⟩ := h
  exact ⟨h1, h2.imp id fun ⟨g, cap, cur, e1, e2, e3⟩ => ⟨g, cap, cur, e1, Nat.le_trans hB e2, e3⟩⟩

set_option maxHeartbeats 800000 in
theorem RShuffle_in (s : ByteArray) (n : Nat) (w : World) (hs : s.size ≤ maxLen) (hn : n ≤ 10000) :
    Calls Try.prog 14 #[.string s, .int .i64 n] w fun e w' => ∃ v, e = .returned (.tuple #[v, .int .i64 0]) ∧ w'.ownsRow w.heap.size 3 1 v n (numV .i64 (shufL s n (n - 1))) ∧ Below w.heap.size w w' := by
  obtain ⟨i0, hi0, hz0, hz1, hz2⟩ := info_parts infoI
  go_enter Try.func14, Try.ntmps14
  go_wp2_with fail
  refine (RStream_in _ _ _ hs hn).mono ?_
  rintro e w1 ⟨vl, rfl, hl, hb⟩
  have HL := Lib.hid hl
  clear hl
  go_wp2
  go_loopw [22, 9, 8] (fun i _ v wr => ∃ k : Nat, k ≤ n ∧ i = .int .i64 k ∧ wr.ownsRow w1.heap.size 3 1 v k (numV .i64 ((List.range k).map Int.ofNat)) ∧ Below w1.heap.size w1 wr) (fun i _ _ _ => n - (intOf i).toNat)
  case atStart => exact ⟨0, Nat.zero_le _, rfl, World.ownsRow_nil _ _ _ _, Below.refl _ _⟩
  case round =>
    obtain ⟨k, hk, rfl, hown, hbr⟩ := hrel
    by_cases hlt : k < n
    · go_wp2_with (at_builtin; refine wpList_append_own _ rfl _ _ 22 rfl w1.heap.size 3 i0 (.int .i64 0) 1 8 Try.underlying22 hi0 hz0 hz1 hz2 rfl (by decide) _ _ _ rfl (hown.alloc _) ⟨wr.heap.size, 0, none⟩ 1 1 [.int .i64 k] rfl rfl ?c1 ?c2 ?c3 ?c4 ?c5 ?_)
      case c1 => intro j u hj; cases j <;> simp_all [go_sem]
      case c2 => intro u hu; simp only [List.mem_singleton] at hu; subst hu; rfl
      case c3 => unfold maxLen; omega
      case c4 => omega
      case c5 => have := hbr.size; simp; omega
      intro v2 w2 hown2 hg2 _
      have hrow : ∀ g, u8.ownBlock = some g → w1.heap.size ≤ g := fun g hg => (hown.lt g hg).1
      have hb2 : Below w1.heap.size w1 w2 := (hbr.alloc hbr.size _).grown hg2 (by have := hbr.size; simp; omega) hrow
      have HO := Lib.hid (show w2.ownsRow w1.heap.size 3 1 v2 (k + 1) (numV .i64 ((List.range (k + 1)).map Int.ofNat)) by rw [range_succ_int, numV_append]; exact hown2)
      clear hown2 hg2 hrow hown
      go_wp2
      go_roundw
      case rel => exact ⟨k + 1, by omega, by go_num, HO.out, hb2⟩
      case measure => simp [intOf]; omega
    obtain rfl : k = n := by omega
    by_cases hk2 : 2 ≤ k
    · obtain ⟨g, cap, hv, hg, hgl⟩ := hown.form (by omega)
      obtain ⟨gl, capl, hvl, hgl1, hgl2⟩ := HL.out.form (by omega)
      rw [hv] at hown ⊢
      rw [hvl] at HL ⊢
      clear hv hvl
      have HO := Lib.hid hown
      clear hown
      go_wp2
      go_loopw [10, 11] (fun i _ wq => ∃ t i' : Nat, i' + t + 1 = k ∧ i = .int .i64 i' ∧ wq.ownsRow w1.heap.size 3 1 (.slice (some ⟨g, 0, none⟩) k cap) k (numV .i64 (shufL s k t)) ∧ Below w1.heap.size w1 wq) (fun i _ _ => (intOf i).toNat)
      case atStart => exact ⟨0, k - 1, by omega, by rw [show ((k - 1 : Nat) : Int) = (k : Int) - 1 from by omega], HO.out, hbr⟩
      case round =>
        obtain ⟨t, i, hit, rfl, hown, hbq⟩ := hrel
        clear HO hbr
        have hit' : i + t + 1 ≤ k := by omega
        have HIT := Lib.hid hit
        clear hit
        by_cases hlt2 : 1 ≤ i
        · obtain ⟨q, hq1, hq2, hq3⟩ := jat_ok s k t i HIT.out (by omega)
          have HQ := Lib.hid hq1
          have HQ3 := Lib.hid hq3
          clear hq1 hq3
          have hlen := shufL_len s k t
          have hci := hown.cellAt i (by omega)
          have hcq := hown.cellAt q (by omega)
          rw [numV_getD _ _ _ (by omega)] at hci hcq
          have hf := fun j => hown.frozenAt j
          have hct : wr.cell? ⟨gl, k - 1 - i, none⟩ = some (.int .u64 (outF (stS (hashS s) t))) := by
            rw [show k - 1 - i = t from by have := HIT.out; omega, hbq.cell (p := ⟨gl, t, none⟩) hgl2, HL.out.cellAt t (by omega)]
            exact streamL_get s k t (by omega)
          have OWN := Lib.hid hown
          clear hown hlen
          go_wp2_with fail
          rw [HQ.out]
          clear hct
          obtain ⟨v', hy'⟩ := cell?_setCell_some (w := wr) (p := ⟨g, i, none⟩) (x := .int .i64 ((shufL s k t)[q]?.getD 0)) (q := ⟨g, q, none⟩) (v := .int .i64 ((shufL s k t).getD q 0)) hcq
          go_region
          go_wp2
          have st1 := (World.ownsRow.stored OWN.out i (.int .i64 ((shufL s k t).getD q 0)))
          have st2 := World.ownsRow.stored st1.1 q (.int .i64 ((shufL s k t).getD i 0))
          have hb3 : Below w1.heap.size w1 _ := (hbq.setCell (p := ⟨g, i, none⟩) hg (.int .i64 ((shufL s k t).getD q 0))).setCell (p := ⟨g, q, none⟩) hg (.int .i64 ((shufL s k t).getD i 0))
          have ho3 : ((wr.setCell ⟨g, i, none⟩ (.int .i64 ((shufL s k t).getD q 0))).setCell ⟨g, q, none⟩ (.int .i64 ((shufL s k t).getD i 0))).ownsRow w1.heap.size 3 1 (.slice (some ⟨g, 0, none⟩) k cap) k (numV .i64 (shufL s k (t + 1))) := by
            have e : numV .i64 (shufL s k (t + 1)) = ((numV .i64 (shufL s k t)).set i (.int .i64 ((shufL s k t).getD q 0))).set q (.int .i64 ((shufL s k t).getD i 0)) := by
              rw [shufL, ← HQ3.out, show k - 1 - t = i from by have := HIT.out; omega]
              simp [numV, swapAt, List.map_set]
            rw [e]
            exact st2.1
          have H1 := Lib.hid ho3
          have H3 := Lib.hid hb3
          clear ho3 hb3 st1 st2
          go_roundw
          case rel => exact ⟨t + 1, i - 1, by have := HIT.out; omega, by rw [show ((i - 1 : Nat) : Int) = (i : Int) - 1 from by omega], H1.out, H3.out.drew⟩
          case measure => simp [intOf]; omega
        · have h0 : i = 0 := by omega
          have ht : t = k - 1 := by have := HIT.out; omega
          have HO := Lib.hid (show wr.ownsRow w1.heap.size 3 1 (.slice (some ⟨g, 0, none⟩) k cap) k (numV .i64 (shufL s k (k - 1))) from ht ▸ hown)
          clear hown ht h0
          go_wp2
          go_ret2
          exact ⟨_, rfl, own_back HO.out hb.size, hb.trans (hbq.mono hb.size)⟩
    · have e : numV .i64 ((List.range k).map Int.ofNat) = numV .i64 (shufL s k (k - 1)) := by
        rw [show k - 1 = 0 from by omega]; rfl
      rw [e] at hown
      have HO := Lib.hid hown
      clear hown e
      by_cases h0 : k = 0
      all_goals
        have hk3 : k ≤ 1 := by omega
        clear hk2
        go_wp2
        refine wp_loop_rounds 1 ?_
        rw [rounds_succ]
        go_wp2
        go_ret2
        exact ⟨_, rfl, own_back HO.out hb.size, hb.trans (hbr.mono hb.size)⟩
end Go.Proofs.Ytfkgodgjchbbpaa
