/- The walks of 'source', its closure, and 'Stream' of both packages. No condition. -/
import Derived.Test.YtfkgodgjchbbpaaChk0
import Derived.Carry
namespace Go.Proofs.Ytfkgodgjchbbpaa
open Go.RowKit

def nextS (s : Int) : Int := IntKind.u64.wrap (s + 11400714819323198485)
def mix1 (z : Int) : Int := IntKind.u64.wrap (bits BinOp.xor IntKind.u64 z (z / 1073741824) * 13787848793156543929)
def mix2 (z : Int) : Int := IntKind.u64.wrap (bits BinOp.xor IntKind.u64 z (z / 134217728) * 10723151780598845931)
def mix3 (z : Int) : Int := bits BinOp.xor IntKind.u64 z (z / 2147483648)
def outF (s : Int) : Int := mix3 (mix2 (mix1 (nextS s)))
def stepH (h : Int) (c : UInt8) : Int := IntKind.u64.wrap (bits BinOp.xor IntKind.u64 h (IntKind.u64.wrap ↑c.toNat) * 1099511628211)
def hashS (s : ByteArray) : Int := s.data.toList.foldl stepH 14695981039346656037
def stS (h : Int) : Nat → Int
  | 0 => h
  | k + 1 => nextS (stS h k)
def drawS (s : ByteArray) (k : Nat) : Int := outF (stS (hashS s) k)
def streamL (s : ByteArray) (n : Nat) : List Int := (List.range n).map (drawS s)
theorem streamL_succ (s : ByteArray) (k : Nat) : streamL s (k + 1) = streamL s k ++ [drawS s k] := by unfold streamL; rw [List.range_succ, List.map_append]; rfl
theorem streamL_len (s : ByteArray) (k : Nat) : (streamL s k).length = k := by simp [streamL]
theorem hash_step {s : ByteArray} {k : Nat} (h : k < s.size) : (s.data.toList.take (k + 1)).foldl stepH 14695981039346656037 = stepH ((s.data.toList.take k).foldl stepH 14695981039346656037) s[k] := by
  have h' : k < s.data.toList.length := by simpa using h
  rw [List.take_succ_eq_append_getElem h', List.foldl_append]
  rfl
theorem hash_done {s : ByteArray} {k : Nat} (h : s.size ≤ k) : (s.data.toList.take k).foldl stepH 14695981039346656037 = hashS s := by
  rw [List.take_of_length_le (by simpa using h)]; rfl

theorem closure_any (b : Nat) (s : Int) (w : World) (hc : w.cell? ⟨b, 0, none⟩ = some (.int .u64 s)) (hf : w.frozen? ⟨b, 0, none⟩ = false) :
    Calls Try.prog 47 #[.pointer (some ⟨b, 0, none⟩)] w fun e w' => e = .returned (.int .u64 (outF s)) ∧ w.setCell ⟨b, 0, none⟩ (.int .u64 (nextS s)) = w' := by
  go_enter Try.func47, Try.ntmps47
  go_wp2
  go_ret
  exact ⟨rfl, rfl⟩
set_option maxHeartbeats 400000 in
theorem source_any (s : ByteArray) (w : World) (hs : s.size ≤ maxLen) :
    Calls Try.prog 32 #[.string s] w fun e w' => e = .returned (.func (.func 47) #[] #[.pointer (some ⟨w.heap.size, 0, none⟩)]) ∧ w'.heap[w.heap.size]? = some (.cells #[.int .u64 (hashS s)] 35 (0, 0)) ∧ Below w.heap.size w w' := by
  unfold maxLen at hs
  have hmf : ∀ (fn : Fn) (first cap : Array Value) (w : World), (Instr.makeFunc fn first cap).run Try.prog w = .ok (.func fn first cap) w := fun _ _ _ _ => rfl
  go_enter Try.func32, Try.ntmps32
  go_wp2
  go_loopw [4] (fun i wr => ∃ k : Nat, k ≤ s.size ∧ i = .int .i64 k ∧ wr.heap[w.heap.size]? = some (.cells #[.int .u64 ((s.data.toList.take k).foldl stepH 14695981039346656037)] 35 (0, 0)) ∧ Below w.heap.size w wr) (fun i _ => s.size - (intOf i).toNat)
  case atStart => exact ⟨0, Nat.zero_le _, rfl, heap_alloc_new w _, (Below.refl _ _).alloc (Nat.le_refl _) _⟩
  case round =>
    obtain ⟨k, hk, rfl, hcell, hb⟩ := hrel
    by_cases hlt : k < s.size
    · have HS := Lib.hid (hash_step hlt)
      obtain ⟨h, hh⟩ : ∃ h, (s.data.toList.take k).foldl stepH 14695981039346656037 = h := ⟨_, rfl⟩
      rw [hh] at hcell
      have HH := Lib.hid hh
      clear hh
      have c0 := cell_of_one hcell
      have f0 := free_of_one hcell
      have HC := Lib.hid hcell
      clear hcell
      go_wp2
      go_region
      all_goals
        go_wp2
        go_roundw
        case rel => exact ⟨k + 1, by omega, by go_num, by rw [HS.out, HH.out]; exact heap_setCell_same _ _ _ _ _ _ HC.out, (hb.setCell (Nat.le_refl _) _).drew⟩
        case measure => simp [intOf]; omega
    · rw [hash_done (by omega)] at hcell
      have HC := Lib.hid hcell
      clear hcell
      go_wp2
      go_ret
      exact ⟨rfl, HC.out, hb⟩

theorem infoU : (Try.prog.info? 35).map (fun i => (i.zero, i.size, i.bytes)) = some (some (.int .u64 0), 1, 8) := by kernel_rfl
theorem infoI : (Try.prog.info? 3).map (fun i => (i.zero, i.size, i.bytes)) = some (some (.int .i64 0), 1, 8) := by kernel_rfl
theorem numV_append (κ : IntKind) (l r : List Int) : numV κ (l ++ r) = numV κ l ++ numV κ r := by simp [numV]

theorem Stream_off (s : ByteArray) (n : Int) (w : World) (h : n < 0 ∨ 10000 < n) :
    Calls Try.prog 11 #[.string s, .int .i64 n] w fun e w' => e = .returned (.tuple #[.slice none 0 0, .int .i64 1]) ∧ w = w' := by
  have b1 : outB n 0 10000 = true := outB_true h
  clear h
  go_enter Try.func11, Try.ntmps11
  go_wp2_with (go_at_call 31; refine (outside_any _ _ _ _).mono ?_; rintro e w' ⟨rfl, rfl⟩)
  go_ret2
  exact ⟨rfl, rfl⟩
theorem RStream_off (s : ByteArray) (n : Int) (w : World) (h : n < 0 ∨ 10000 < n) :
    Calls Try.prog 12 #[.string s, .int .i64 n] w fun e w' => e = .returned (.tuple #[.slice none 0 0, .int .i64 1]) ∧ w = w' := by
  have b1 : outB n 0 10000 = true := outB_true h
  clear h
  go_enter Try.func12, Try.ntmps12
  go_wp2_with (go_at_call 33; refine (within_any _ _ _ _).mono ?_; rintro e w' ⟨rfl, rfl⟩)
  go_ret2
  exact ⟨rfl, rfl⟩
set_option maxHeartbeats 800000 in
theorem Stream_in (s : ByteArray) (n : Nat) (w : World) (hs : s.size ≤ maxLen) (hn : n ≤ 10000) :
    Calls Try.prog 11 #[.string s, .int .i64 n] w fun e w' => ∃ v, e = .returned (.tuple #[v, .int .i64 0]) ∧ w'.ownsRow w.heap.size 35 1 v n (numV .u64 (streamL s n)) ∧ Below w.heap.size w w' := by
  have b1 : outB (n : Int) 0 10000 = false := outB_false (by omega) (by omega)
  obtain ⟨i0, hi0, hz0, hz1, hz2⟩ := info_parts infoU
  go_enter Try.func11, Try.ntmps11
  go_wp2_with (go_at_call 31; refine (outside_any _ _ _ _).mono ?_; rintro e w' ⟨rfl, rfl⟩)
  refine (source_any _ _ hs).mono ?_
  rintro e w1 ⟨rfl, hcell, hb⟩
  have hsz : w.heap.size < w1.heap.size := by
    rcases Nat.lt_or_ge w.heap.size w1.heap.size with h | h
    · exact h
    · rw [Array.getElem?_eq_none h] at hcell; cases hcell
  have HC := Lib.hid hcell
  clear hcell b1
  go_wp2
  go_loopw [13, 7] (fun i v wr => ∃ k : Nat, k ≤ n ∧ i = .int .i64 k ∧ wr.ownsRow (w.heap.size + 1) 35 1 v k (numV .u64 (streamL s k)) ∧ wr.heap[w.heap.size]? = some (.cells #[.int .u64 (stS (hashS s) k)] 35 (0, 0)) ∧ Below w.heap.size w wr ∧ w.heap.size < wr.heap.size) (fun i _ _ => n - (intOf i).toNat)
  case atStart => exact ⟨0, Nat.zero_le _, rfl, World.ownsRow_nil _ _ _ _, HC.out, hb, hsz⟩
  case round =>
    obtain ⟨k, hk, rfl, hown, hcell, hbr, hsr⟩ := hrel
    clear HC hb hsz
    by_cases hlt : k < n
    · have c0 := cell_of_one hcell
      have f0 := free_of_one hcell
      have HC2 := Lib.hid (heap_setCell_same _ _ 0 _ _ (.int .u64 (nextS (stS (hashS s) k))) hcell)
      clear hcell
      go_wp2_with (first
        | (go_at_call 47; refine (closure_any _ _ _ c0 f0).mono ?_; rintro e w' ⟨rfl, rfl⟩)
        | (at_builtin; refine wpList_append_own _ rfl _ _ 28 rfl (w.heap.size + 1) 35 i0 (.int .u64 0) 1 8 Try.underlying28 hi0 hz0 hz1 hz2 rfl (by decide) _ _ _ rfl ((ownsRow_setCell_below hown (Nat.lt_succ_self _) _).alloc _) ⟨wr.heap.size, 0, none⟩ 1 1 [.int .u64 (outF (stS (hashS s) k))] rfl rfl ?c1 ?c2 ?c3 ?c4 ?c5 ?_))
      case c1 => intro j u hj; cases j <;> simp_all [go_sem]
      case c2 => intro u hu; simp only [List.mem_singleton] at hu; subst hu; rfl
      case c3 => unfold maxLen; omega
      case c4 => omega
      case c5 => simp; omega
      intro v2 w2 hown2 hg2 _
      have hrow : ∀ g, u7.ownBlock = some g → w.heap.size + 1 ≤ g := fun g hg => (hown.lt g hg).1
      have hcell2 : w2.heap[w.heap.size]? = some (.cells #[.int .u64 (stS (hashS s) (k + 1))] 35 (0, 0)) := by
        rw [hg2.block _ (by simp; omega) (fun e => by have := hrow _ e.symm; omega), Below.heap_alloc _ _ _ (by simp; omega)]
        exact HC2.out
      have hb2 : Below w.heap.size w w2 := ((hbr.setCell (Nat.le_refl _) _).alloc (by simp; omega) _).grown hg2 (by simp; omega) (fun g hg => by have := hrow g hg; omega)
      have hs2 : w.heap.size < w2.heap.size := by have := hg2.size; simp at this; omega
      have HO := Lib.hid (show w2.ownsRow (w.heap.size + 1) 35 1 v2 (k + 1) (numV .u64 (streamL s (k + 1))) by rw [streamL_succ, numV_append]; exact hown2)
      have HX := Lib.hid hcell2
      clear hown2 hcell2 hg2 hrow hown
      go_wp2
      go_roundw
      case rel => exact ⟨k + 1, by omega, by go_num, HO.out, HX.out, hb2, hs2⟩
      case measure => simp [intOf]; omega
    · obtain rfl : k = n := by omega
      have HO := Lib.hid hown
      clear hown
      go_wp2
      go_ret2
      refine ⟨_, rfl, ?_, hbr⟩
      obtain ⟨h1, h2⟩ := HO.out
      exact ⟨h1, h2.imp id fun ⟨g, cap, cur, e1, e2, e3⟩ => ⟨g, cap, cur, e1, by omega, e3⟩⟩

set_option maxHeartbeats 800000 in
theorem RStream_in (s : ByteArray) (n : Nat) (w : World) (hs : s.size ≤ maxLen) (hn : n ≤ 10000) :
    Calls Try.prog 12 #[.string s, .int .i64 n] w fun e w' => ∃ v, e = .returned (.tuple #[v, .int .i64 0]) ∧ w'.ownsRow w.heap.size 35 1 v n (numV .u64 (streamL s n)) ∧ Below w.heap.size w w' := by
  have b1 : outB (n : Int) 0 10000 = false := outB_false (by omega) (by omega)
  have hs' := hs
  unfold maxLen at hs'
  obtain ⟨i0, hi0, hz0, hz1, hz2⟩ := info_parts infoU
  go_enter Try.func12, Try.ntmps12
  go_wp2_with (go_at_call 33; refine (within_any _ _ _ _).mono ?_; rintro e w' ⟨rfl, rfl⟩)
  clear b1
  go_loop [15, 6, 7] (fun i h _ => ∃ k : Nat, k ≤ s.size ∧ i = .int .i64 k ∧ h = .int .u64 ((s.data.toList.take k).foldl stepH 14695981039346656037)) (fun i _ _ => s.size - (intOf i).toNat)
  case atStart => exact ⟨0, Nat.zero_le _, rfl, rfl⟩
  case round =>
    obtain ⟨k, hk, rfl, rfl⟩ := hrel
    by_cases hlt : k < s.size
    · have HS := Lib.hid (hash_step hlt)
      obtain ⟨h, hh⟩ : ∃ h, (s.data.toList.take k).foldl stepH 14695981039346656037 = h := ⟨_, rfl⟩
      rw [hh]
      have HH := Lib.hid hh
      clear hh
      go_wp2
      go_round
      case rel => exact ⟨k + 1, by omega, by go_num, by rw [HS.out, HH.out]; rfl⟩
      case measure => simp [intOf]; omega
    rw [hash_done (by omega)]
    clear hs
    go_wp2
    go_loopw [27, 6, 9, 8] (fun i h _ v wr => ∃ k : Nat, k ≤ n ∧ i = .int .i64 k ∧ h = .int .u64 (stS (hashS s) k) ∧ wr.ownsRow w.heap.size 35 1 v k (numV .u64 (streamL s k)) ∧ Below w.heap.size w wr) (fun i _ _ _ _ => n - (intOf i).toNat)
    case atStart => exact ⟨0, Nat.zero_le _, rfl, rfl, World.ownsRow_nil _ _ _ _, Below.refl _ _⟩
    case round =>
      obtain ⟨k2, hk2, rfl, rfl, hown, hbr⟩ := hrel
      by_cases hlt2 : k2 < n
      · have HD : Hid (outF (stS (hashS s) k2) = drawS s k2) := rfl
        go_wp2_with (at_builtin; refine wpList_append_own _ rfl _ _ 28 rfl w.heap.size 35 i0 (.int .u64 0) 1 8 Try.underlying28 hi0 hz0 hz1 hz2 rfl (by decide) _ _ _ rfl (hown.alloc _) ⟨wr.heap.size, 0, none⟩ 1 1 [.int .u64 (outF (stS (hashS s) k2))] rfl rfl ?c1 ?c2 ?c3 ?c4 ?c5 ?_)
        case c1 => intro j u hj; cases j <;> simp_all [go_sem, outF, mix1, mix2, mix3, nextS]
        case c2 => intro u hu; simp only [List.mem_singleton] at hu; subst hu; rfl
        case c3 => unfold maxLen; omega
        case c4 => omega
        case c5 => have := hbr.size; simp; omega
        intro v2 w2 hown2 hg2 _
        have hrow : ∀ g, u8.ownBlock = some g → w.heap.size ≤ g := fun g hg => (hown.lt g hg).1
        have hb2 : Below w.heap.size w w2 := (hbr.alloc hbr.size _).grown hg2 (by have := hbr.size; simp; omega) (fun g hg => hrow g hg)
        have HO := Lib.hid (show w2.ownsRow w.heap.size 35 1 v2 (k2 + 1) (numV .u64 (streamL s (k2 + 1))) by rw [streamL_succ, numV_append]; exact hown2)
        clear hown2 hg2 hrow hown
        go_wp2
        go_roundw
        case rel => exact ⟨k2 + 1, by omega, by go_num, rfl, HO.out, hb2⟩
        case measure => simp [intOf]; omega
      · obtain rfl : k2 = n := by omega
        have HO := Lib.hid hown
        clear hown
        go_wp2
        go_ret2
        exact ⟨_, rfl, HO.out, hbr⟩
end Go.Proofs.Ytfkgodgjchbbpaa
