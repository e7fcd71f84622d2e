/- The walks of the tables of signs, wordOf, function, row. · What a part without fault is. The plain mathematics. · Read's readers give back what Show writes. The plain mathematics: no program in sight. · Both readers give back what Show writes, for every sound value. The plain mathematics: no program in sight. · The walks of whole, padded, showNumber: digits read and written. -/
import Derived.Test.YtcmccjcelchlhaaGreatDoorF2
import Derived.Test.YtcmccjcelchlhaaGreatDoorF6
import Derived.Deep.DrawnRows
import Derived.Test.YtcmccjcelchlhaaGreatDoorF1
import Derived.Test.YtcmccjcelchlhaaGreatDoorShelf
import Derived.Lib.AppendIntMem
namespace Go.Proofs.YtcmccjcelchlhaaGreatDoor
open Go.RowKit
attribute [local go_sem ↓] Go.wp_at_zero Go.wp_at_succ

/-- a sign in memory -/
def SignAt (_w : World) (_B : Nat) (d : ByteArray × Int) (cs : List Value) : Prop := cs = [.string d.1, .int .i64 d.2]
def flatS (l : List (ByteArray × Int)) : List Value := l.flatMap (fun d => [.string d.1, .int .i64 d.2])
theorem flatS_len : ∀ l : List (ByteArray × Int), (flatS l).length = l.length * 2
  | [] => rfl
  | d :: r => by
    have := flatS_len r
    unfold flatS at *
    rw [List.flatMap_cons, List.length_append, this]
    simp [Nat.succ_mul, Nat.add_comm]
theorem flatS_part : ∀ (l : List (ByteArray × Int)) (i : Nat) (h : i < l.length), ((flatS l).drop (i * 2)).take 2 = [.string l[i].1, .int .i64 l[i].2]
  | d :: r, 0, _ => by simp [flatS]
  | d :: r, i + 1, h => by
    have := flatS_part r i (by simpa using h)
    unfold flatS at *
    rw [List.flatMap_cons, show (i + 1) * 2 = 2 + i * 2 by omega, ← List.drop_drop]
    simpa using this
theorem signs_at {w : World} {g B : Nat} {t : TypeId} {l : List (ByteArray × Int)} (h : Blk w g t (flatS l).toArray) (hB : g < B) (hl : l.length ≤ maxLen) : LiesAt SignAt 2 w B (some ⟨g, 0, none⟩) l := by
  refine ⟨hl, flatS l, ⟨flatS_len l, fun _ => ⟨_, rfl, hB, fun j u hu => ?_⟩⟩, fun i hi => flatS_part l i hi⟩
  have e : (⟨g, 0, none⟩ : Addr).add j = ⟨g, j, none⟩ := by unfold Addr.add; split <;> simp_all
  rw [e, h.cell j]
  simpa using hu
def compL : List (ByteArray × Int) := [(⟨#[61]⟩, 4), (⟨#[60, 62]⟩, 5), (⟨#[60]⟩, 6), (⟨#[60, 61]⟩, 7), (⟨#[62]⟩, 8), (⟨#[62, 61]⟩, 9), (⟨#[105, 110]⟩, 10), (⟨#[104, 97, 115]⟩, 11)]
set_option maxHeartbeats 1000000 in
set_option maxRecDepth 100000 in
theorem comp_any (w : World) : Calls Tryz.prog 136 #[] w fun e w' => ∃ ad, e = .returned (.slice (some ad) 8 8) ∧ LiesAt SignAt 2 w' w'.heap.size (some ad) compL ∧ Below w.heap.size w w' := by
  go_enter Tryz.func136, Tryz.ntmps136
  go_wp2_with fail
  go_ret
  have e : (flatS compL).toArray = #[.string ⟨#[61]⟩, .int .i64 4, .string ⟨#[60, 62]⟩, .int .i64 5, .string ⟨#[60]⟩, .int .i64 6, .string ⟨#[60, 61]⟩, .int .i64 7, .string ⟨#[62]⟩, .int .i64 8, .string ⟨#[62, 61]⟩, .int .i64 9, .string ⟨#[105, 110]⟩, .int .i64 10, .string ⟨#[104, 97, 115]⟩, .int .i64 11] := by kernel_rfl
  exact ⟨_, rfl, signs_at (t := 148) (by rw [e]; exact Blk.new w 148 #[.string ⟨#[61]⟩, .int .i64 4, .string ⟨#[60, 62]⟩, .int .i64 5, .string ⟨#[60]⟩, .int .i64 6, .string ⟨#[60, 61]⟩, .int .i64 7, .string ⟨#[62]⟩, .int .i64 8, .string ⟨#[62, 61]⟩, .int .i64 9, .string ⟨#[105, 110]⟩, .int .i64 10, .string ⟨#[104, 97, 115]⟩, .int .i64 11]) (by simp) (by decide), (Below.refl _ w).alloc (Nat.le_refl _) _⟩
def sumsL : List (ByteArray × Int) := [(⟨#[43]⟩, 15), (⟨#[45]⟩, 16)]
set_option maxHeartbeats 1000000 in
set_option maxRecDepth 100000 in
theorem sums_any (w : World) : Calls Tryz.prog 137 #[] w fun e w' => ∃ ad, e = .returned (.slice (some ad) 2 2) ∧ LiesAt SignAt 2 w' w'.heap.size (some ad) sumsL ∧ Below w.heap.size w w' := by
  go_enter Tryz.func137, Tryz.ntmps137
  go_wp2_with fail
  go_ret
  have e : (flatS sumsL).toArray = #[.string ⟨#[43]⟩, .int .i64 15, .string ⟨#[45]⟩, .int .i64 16] := by kernel_rfl
  exact ⟨_, rfl, signs_at (t := 148) (by rw [e]; exact Blk.new w 148 #[.string ⟨#[43]⟩, .int .i64 15, .string ⟨#[45]⟩, .int .i64 16]) (by simp) (by decide), (Below.refl _ w).alloc (Nat.le_refl _) _⟩
def prodL : List (ByteArray × Int) := [(⟨#[42]⟩, 17), (⟨#[47]⟩, 18), (⟨#[109, 111, 100]⟩, 19)]
set_option maxHeartbeats 1000000 in
set_option maxRecDepth 100000 in
theorem prod_any (w : World) : Calls Tryz.prog 138 #[] w fun e w' => ∃ ad, e = .returned (.slice (some ad) 3 3) ∧ LiesAt SignAt 2 w' w'.heap.size (some ad) prodL ∧ Below w.heap.size w w' := by
  go_enter Tryz.func138, Tryz.ntmps138
  go_wp2_with fail
  go_ret
  have e : (flatS prodL).toArray = #[.string ⟨#[42]⟩, .int .i64 17, .string ⟨#[47]⟩, .int .i64 18, .string ⟨#[109, 111, 100]⟩, .int .i64 19] := by kernel_rfl
  exact ⟨_, rfl, signs_at (t := 148) (by rw [e]; exact Blk.new w 148 #[.string ⟨#[42]⟩, .int .i64 17, .string ⟨#[47]⟩, .int .i64 18, .string ⟨#[109, 111, 100]⟩, .int .i64 19]) (by simp) (by decide), (Below.refl _ w).alloc (Nat.le_refl _) _⟩
def funsL : List (ByteArray × Int) := [(⟨#[97, 110, 115, 119, 101, 114, 101, 100]⟩, 12), (⟨#[97, 115, 107, 101, 100]⟩, 13), (⟨#[114, 101, 97, 115, 111, 110]⟩, 14), (⟨#[97, 98, 115]⟩, 21), (⟨#[102, 108, 111, 111, 114]⟩, 22), (⟨#[114, 111, 117, 110, 100]⟩, 23), (⟨#[109, 105, 110]⟩, 24), (⟨#[109, 97, 120]⟩, 25), (⟨#[105, 102]⟩, 26), (⟨#[101, 108, 115, 101]⟩, 27), (⟨#[115, 105, 122, 101]⟩, 28), (⟨#[99, 111, 100, 101]⟩, 29), (⟨#[108, 111, 119, 101, 114]⟩, 30), (⟨#[106, 111, 105, 110]⟩, 31), (⟨#[98, 101, 103, 105, 110, 115]⟩, 32), (⟨#[104, 111, 108, 100, 115]⟩, 33), (⟨#[121, 101, 97, 114]⟩, 34), (⟨#[109, 111, 110, 116, 104]⟩, 35), (⟨#[100, 97, 121]⟩, 36), (⟨#[100, 97, 121, 115]⟩, 37), (⟨#[97, 103, 101]⟩, 38), (⟨#[108, 97, 116, 101, 114]⟩, 39)]
set_option maxHeartbeats 1000000 in
set_option maxRecDepth 100000 in
theorem funs_any (w : World) : Calls Tryz.prog 101 #[] w fun e w' => ∃ ad, e = .returned (.slice (some ad) 22 22) ∧ LiesAt SignAt 2 w' w'.heap.size (some ad) funsL ∧ Below w.heap.size w w' := by
  go_enter Tryz.func101, Tryz.ntmps101
  go_wp2_with fail
  go_ret
  have e : (flatS funsL).toArray = #[.string ⟨#[97, 110, 115, 119, 101, 114, 101, 100]⟩, .int .i64 12, .string ⟨#[97, 115, 107, 101, 100]⟩, .int .i64 13, .string ⟨#[114, 101, 97, 115, 111, 110]⟩, .int .i64 14, .string ⟨#[97, 98, 115]⟩, .int .i64 21, .string ⟨#[102, 108, 111, 111, 114]⟩, .int .i64 22, .string ⟨#[114, 111, 117, 110, 100]⟩, .int .i64 23, .string ⟨#[109, 105, 110]⟩, .int .i64 24, .string ⟨#[109, 97, 120]⟩, .int .i64 25, .string ⟨#[105, 102]⟩, .int .i64 26, .string ⟨#[101, 108, 115, 101]⟩, .int .i64 27, .string ⟨#[115, 105, 122, 101]⟩, .int .i64 28, .string ⟨#[99, 111, 100, 101]⟩, .int .i64 29, .string ⟨#[108, 111, 119, 101, 114]⟩, .int .i64 30, .string ⟨#[106, 111, 105, 110]⟩, .int .i64 31, .string ⟨#[98, 101, 103, 105, 110, 115]⟩, .int .i64 32, .string ⟨#[104, 111, 108, 100, 115]⟩, .int .i64 33, .string ⟨#[121, 101, 97, 114]⟩, .int .i64 34, .string ⟨#[109, 111, 110, 116, 104]⟩, .int .i64 35, .string ⟨#[100, 97, 121]⟩, .int .i64 36, .string ⟨#[100, 97, 121, 115]⟩, .int .i64 37, .string ⟨#[97, 103, 101]⟩, .int .i64 38, .string ⟨#[108, 97, 116, 101, 114]⟩, .int .i64 39] := by kernel_rfl
  exact ⟨_, rfl, signs_at (t := 148) (by rw [e]; exact Blk.new w 148 #[.string ⟨#[97, 110, 115, 119, 101, 114, 101, 100]⟩, .int .i64 12, .string ⟨#[97, 115, 107, 101, 100]⟩, .int .i64 13, .string ⟨#[114, 101, 97, 115, 111, 110]⟩, .int .i64 14, .string ⟨#[97, 98, 115]⟩, .int .i64 21, .string ⟨#[102, 108, 111, 111, 114]⟩, .int .i64 22, .string ⟨#[114, 111, 117, 110, 100]⟩, .int .i64 23, .string ⟨#[109, 105, 110]⟩, .int .i64 24, .string ⟨#[109, 97, 120]⟩, .int .i64 25, .string ⟨#[105, 102]⟩, .int .i64 26, .string ⟨#[101, 108, 115, 101]⟩, .int .i64 27, .string ⟨#[115, 105, 122, 101]⟩, .int .i64 28, .string ⟨#[99, 111, 100, 101]⟩, .int .i64 29, .string ⟨#[108, 111, 119, 101, 114]⟩, .int .i64 30, .string ⟨#[106, 111, 105, 110]⟩, .int .i64 31, .string ⟨#[98, 101, 103, 105, 110, 115]⟩, .int .i64 32, .string ⟨#[104, 111, 108, 100, 115]⟩, .int .i64 33, .string ⟨#[121, 101, 97, 114]⟩, .int .i64 34, .string ⟨#[109, 111, 110, 116, 104]⟩, .int .i64 35, .string ⟨#[100, 97, 121]⟩, .int .i64 36, .string ⟨#[100, 97, 121, 115]⟩, .int .i64 37, .string ⟨#[97, 103, 101]⟩, .int .i64 38, .string ⟨#[108, 97, 116, 101, 114]⟩, .int .i64 39]) (by simp) (by decide), (Below.refl _ w).alloc (Nat.le_refl _) _⟩
theorem signs_keep {w w' : World} {B : Nat} {A : Option Addr} {l : List (ByteArray × Int)} (h : LiesAt SignAt 2 w B A l) (hb : Below B w w') : LiesAt SignAt 2 w' B A l := LiesAt.keep (w := w) (w' := w') (fun _ _ h => h) h hb
/-- the text of bytes -/
def tx (l : List UInt8) : ByteArray := ⟨l.toArray⟩
theorem sign_word : (∀ d ∈ compL, d.1 = tx (infixT d.2)) ∧ (∀ d ∈ sumsL, d.1 = tx (infixT d.2)) ∧ (∀ d ∈ prodL, d.1 = tx (infixT d.2)) := by
  refine ⟨?_, ?_, ?_⟩ <;> · intro d hd; simp only [compL, sumsL, prodL, List.mem_cons, List.not_mem_nil, or_false] at hd; rcases hd with rfl | hd <;> first | rfl | (repeat' (first | (rcases hd with rfl | hd) | subst hd)) <;> rfl
theorem funs_word : ∀ d ∈ funsL, d.1 = tx (funcT d.2) := by
  intro d hd
  have h : (funsL.all fun d => decide (d.1.data.toList = funcT d.2)) = true := by decide
  have h2 := List.all_eq_true.1 h d hd
  rw [decide_eq_true_iff] at h2
  unfold tx
  rw [← h2]
theorem funs_none {op : Int} (h : ∀ d ∈ funsL, d.2 ≠ op) : funcT op = [] := by
  have hm : ∀ p ∈ funcsL, p.1 ≠ op := by
    intro p hp
    have h1 : (funcsL.all fun p => funsL.any fun d => decide (d.2 = p.1)) = true := by decide
    have h2 := List.all_eq_true.1 h1 p hp
    obtain ⟨d, hd, h3⟩ := List.any_eq_true.1 h2
    rw [decide_eq_true_iff] at h3
    rw [← h3]; exact h d hd
  unfold funcT
  rw [List.find?_eq_none.2 (fun p hp => by simpa using hm p hp)]
theorem sign_none {op : Int} (h1 : ∀ d ∈ compL, d.2 ≠ op) (h2 : ∀ d ∈ sumsL, d.2 ≠ op) (h3 : ∀ d ∈ prodL, d.2 ≠ op) : infixT op = [] := by
  simp only [compL, sumsL, prodL, List.forall_mem_cons] at h1 h2 h3
  unfold infixT
  rw [if_neg (by omega), if_neg (by omega), if_neg (by omega), if_neg (by omega), if_neg (by omega), if_neg (by omega), if_neg (by omega), if_neg (by omega), if_neg (by omega), if_neg (by omega), if_neg (by omega), if_neg (by omega), if_neg (by omega)]
set_option maxHeartbeats 2000000 in
set_option maxRecDepth 100000 in
theorem function_any (op : Int) (w : World) : Calls Tryz.prog 62 #[.int .i64 op] w fun e w' => e = .returned (.string (tx (funcT op))) ∧ Below w.heap.size w w' := by
  go_enter Tryz.func62, Tryz.ntmps62
  go_wp2_with fail
  refine (funs_any w).mono ?_
  rintro en W ⟨ad0, rfl, hL, hbw⟩
  have HL := Lib.hid hL
  have hstart : Below W.heap.size W W := Below.refl _ _
  clear hL
  go_wp2_with fail
  go_loopw [7, 4] (fun i _ wz => ∃ k : Nat, k ≤ 22 ∧ i = .int .i64 k ∧ Hid (∀ d ∈ funsL.take k, d.2 ≠ op) ∧ Below W.heap.size W wz) (fun i _ _ => 22 - (intOf i).toNat)
  case atStart => exact ⟨0, Nat.zero_le _, rfl, Lib.hid (fun d h => by simp at h), hstart⟩
  case round =>
    obtain ⟨k, hk, rfl, HNO, hbr⟩ := hrel
    have hsr := hbr.size
    by_cases hlt : k < 22
    · have hlt' : k < funsL.length := hlt
      obtain ⟨ad, ci, had, hb, hci, hcell⟩ := (signs_keep HL.out hbr).at_ hlt'
      injection had with had
      subst had
      obtain ⟨d, hed⟩ : ∃ d, funsL[k] = d := ⟨_, rfl⟩
      have hdm : d ∈ funsL := by rw [← hed]; exact List.getElem_mem hlt'
      have HST := Lib.hid (show funsL.take (k + 1) = funsL.take k ++ [d] by rw [List.take_succ_eq_append_getElem hlt', hed])
      rw [hed] at hci
      have HDM := Lib.hid hdm
      have HLT := Lib.hid hlt
      obtain ⟨dw, dop⟩ := d
      have hci2 : ci = [.string dw, .int .i64 dop] := hci
      subst hci2
      have fc0 : wr.cell? (ad0.add (k * 2)) = some (.string dw) := hcell 0 _ rfl
      have fc1 : wr.cell? ⟨(ad0.add (k * 2)).block, (ad0.add (k * 2)).off + 1, none⟩ = some (.int .i64 dop) := hcell 1 _ rfl
      have hk0 : (0 : Int) ≤ (k : Nat) := by omega
      have hk1 : (k : Int) < 22 := by omega
      clear hci hcell hed hdm hb hlt'
      by_cases ho : dop = op
      · subst ho
        have bo : (dop == dop) = true := by simp
        have HR := Lib.hid (show tx (funcT dop) = dw from (funs_word _ HDM.out).symm)
        go_wp2_with fail
        go_ret
        exact ⟨by rw [HR.out]; try rfl, hbw.trans ((hbr.alloc hsr _).mono hbw.size)⟩
      · have bo : (dop == op) = false := by simp [ho]
        have HNO2 := Lib.hid (show ∀ d ∈ funsL.take (k + 1), d.2 ≠ op by
          rw [HST.out]
          intro x hx
          rcases List.mem_append.1 hx with h | h
          · exact HNO.out x h
          · rw [List.mem_singleton] at h; rw [h]; exact ho)
        clear ho
        go_wp2_with fail
        go_roundw
        case rel => exact ⟨k + 1, HLT.out, by go_num, HNO2, hbr.alloc hsr _⟩
        case measure =>
          have := HLT.out
          simp [intOf]
          omega
    · have HALL := Lib.hid (show ∀ d ∈ funsL, d.2 ≠ op by have h := HNO.out; rwa [List.take_of_length_le (show funsL.length ≤ k by show 22 ≤ k; omega)] at h)
      clear HNO
      have HR := Lib.hid (show tx (funcT op) = ⟨#[]⟩ by rw [funs_none HALL.out]; rfl)
      go_wp2_with fail
      go_ret
      exact ⟨by rw [HR.out]; try rfl, hbw.trans (hbr.mono hbw.size)⟩
theorem LiesAt_up {w : World} {B B' : Nat} {A : Option Addr} {l : List (ByteArray × Int)} (h : LiesAt SignAt 2 w B A l) (hb : B ≤ B') : LiesAt SignAt 2 w B' A l := by
  obtain ⟨h0, cs, hr, hp⟩ := h
  exact ⟨h0, cs, hr.more hb, hp⟩
set_option maxHeartbeats 4000000 in
set_option maxRecDepth 100000 in
theorem wordOf_any (op : Int) (w : World) : Calls Tryz.prog 100 #[.int .i64 op] w fun e w' => e = .returned (.string (tx (infixT op))) ∧ Below w.heap.size w w' := by
  go_enter Tryz.func100, Tryz.ntmps100
  go_wp2_with fail
  refine (comp_any w).mono ?_
  rintro en W1 ⟨a0, rfl, hL0, hb1⟩
  go_wp2_with fail
  refine (sums_any W1).mono ?_
  rintro en W2 ⟨a1, rfl, hL1, hb2⟩
  go_wp2_with fail
  refine (prod_any W2).mono ?_
  rintro en W3 ⟨a2, rfl, hL2, hb3⟩
  have hbw3 := (hb1.trans (hb2.mono hb1.size)).trans (hb3.mono (Nat.le_trans hb1.size hb2.size))
  have HT3 := Lib.hid (show LiesAt SignAt 2 W3 W3.heap.size (some a0) compL ∧ LiesAt SignAt 2 W3 W3.heap.size (some a1) sumsL ∧ LiesAt SignAt 2 W3 W3.heap.size (some a2) prodL from
    ⟨LiesAt_up (signs_keep (signs_keep hL0 hb2) (hb3.mono hb2.size)) (Nat.le_trans hb2.size hb3.size), LiesAt_up (signs_keep hL1 hb3) hb3.size, hL2⟩)
  clear hL0 hL1 hL2 hb1 hb2 hb3
  go_upto_region 2 with (fail)
  obtain ⟨Wo, hWo⟩ : ∃ Wo, Wo = W3.alloc (.cells #[.slice (some a0) 8 8, .slice (some a1) 2 2, .slice (some a2) 3 3] 145 (0, 0)) := ⟨_, rfl⟩
  have hbo3 : Below W3.heap.size W3 Wo := hWo ▸ (Below.refl _ W3).alloc (Nat.le_refl _) _
  have BO : Blk Wo W3.heap.size 145 #[.slice (some a0) 8 8, .slice (some a1) 2 2, .slice (some a2) 3 3] := hWo ▸ Blk.new W3 _ _
  rw [← hWo]
  have hbw := hbw3.trans (hbo3.mono hbw3.size)
  have HT := Lib.hid (show LiesAt SignAt 2 Wo Wo.heap.size (some a0) compL ∧ LiesAt SignAt 2 Wo Wo.heap.size (some a1) sumsL ∧ LiesAt SignAt 2 Wo Wo.heap.size (some a2) prodL from
    ⟨LiesAt_up (signs_keep HT3.out.1 hbo3) hbo3.size, LiesAt_up (signs_keep HT3.out.2.1 hbo3) hbo3.size, LiesAt_up (signs_keep HT3.out.2.2 hbo3) hbo3.size⟩)
  have HBO := Lib.hid BO
  clear hWo hbo3 BO HT3 hbw3
  go_loopw [12, 4, 6, 18] (fun i _ _ _ wo => ∃ n : Nat, n ≤ 3 ∧ i = .int .i64 n ∧ Hid ((0 < n → ∀ d ∈ compL, d.2 ≠ op) ∧ (1 < n → ∀ d ∈ sumsL, d.2 ≠ op) ∧ (2 < n → ∀ d ∈ prodL, d.2 ≠ op)) ∧ Below Wo.heap.size Wo wo) (fun i _ _ _ _ => 3 - (intOf i).toNat)
  case atStart => exact ⟨0, by omega, rfl, Lib.hid ⟨fun h => by omega, fun h => by omega, fun h => by omega⟩, Below.refl _ _⟩
  case round =>
    obtain ⟨n, hn, rfl, HPR, hbo⟩ := hrel
    have BO := HBO.out.below hbo HBO.out.lt
    have oc0 : wr.cell? ⟨W3.heap.size, 0, none⟩ = some (.slice (some a0) 8 8) := BO.cell 0
    have oc1 : wr.cell? ⟨W3.heap.size, 1, none⟩ = some (.slice (some a1) 2 2) := BO.cell 1
    have oc2 : wr.cell? ⟨W3.heap.size, 2, none⟩ = some (.slice (some a2) 3 3) := BO.cell 2
    clear BO
    obtain rfl | rfl | rfl | rfl : n = 0 ∨ n = 1 ∨ n = 2 ∨ n = 3 := by omega
    · skip
      have HLL := Lib.hid (signs_keep HT.out.1 hbo)
      have hstart : Below wr.heap.size wr wr := Below.refl _ _
      have HLX := Lib.hid (LiesAt_up HLL.out hbo.size)
      go_wp2_with fail
      go_loopw [18, 6] (fun i _ wz => ∃ k : Nat, k ≤ 8 ∧ i = .int .i64 k ∧ Hid (∀ d ∈ compL.take k, d.2 ≠ op) ∧ Below wr.heap.size wr wz) (fun i _ _ => 8 - (intOf i).toNat)
      case atStart => exact ⟨0, Nat.zero_le _, rfl, Lib.hid (fun d h => by simp at h), hstart⟩
      case round =>
        obtain ⟨k, hk, rfl, HNO, hbr⟩ := hrel
        have hsr := hbr.size
        by_cases hlt : k < 8
        · have hlt' : k < compL.length := hlt
          obtain ⟨ad, ci, had, hb, hci, hcell⟩ := (signs_keep HLX.out hbr).at_ hlt'
          injection had with had
          subst had
          obtain ⟨d, hed⟩ : ∃ d, compL[k] = d := ⟨_, rfl⟩
          have hdm : d ∈ compL := by rw [← hed]; exact List.getElem_mem hlt'
          have HST := Lib.hid (show compL.take (k + 1) = compL.take k ++ [d] by rw [List.take_succ_eq_append_getElem hlt', hed])
          rw [hed] at hci
          have HDM := Lib.hid hdm
          have HLT := Lib.hid hlt
          obtain ⟨dw, dop⟩ := d
          have hci2 : ci = [.string dw, .int .i64 dop] := hci
          subst hci2
          have fc0 : wr.cell? (a0.add (k * 2)) = some (.string dw) := hcell 0 _ rfl
          have fc1 : wr.cell? ⟨(a0.add (k * 2)).block, (a0.add (k * 2)).off + 1, none⟩ = some (.int .i64 dop) := hcell 1 _ rfl
          have hk0 : (0 : Int) ≤ (k : Nat) := by omega
          have hk1 : (k : Int) < 8 := by omega
          clear hci hcell hed hdm hb hlt'
          by_cases ho : dop = op
          · subst ho
            have bo : (dop == dop) = true := by simp
            have HR := Lib.hid (show tx (infixT dop) = dw from (sign_word.1 _ HDM.out).symm)
            go_wp2_with fail
            go_ret
            exact ⟨by rw [HR.out]; try rfl, hbw.trans ((hbo.trans ((hbr.alloc hsr _).mono hbo.size)).mono hbw.size)⟩
          · have bo : (dop == op) = false := by simp [ho]
            have HNO2 := Lib.hid (show ∀ d ∈ compL.take (k + 1), d.2 ≠ op by
              rw [HST.out]
              intro x hx
              rcases List.mem_append.1 hx with h | h
              · exact HNO.out x h
              · rw [List.mem_singleton] at h; rw [h]; exact ho)
            clear ho
            go_wp2_with fail
            go_roundw
            case rel => exact ⟨k + 1, HLT.out, by go_num, HNO2, hbr.alloc hsr _⟩
            case measure =>
              have := HLT.out
              simp [intOf]
              omega
        · have HALL := Lib.hid (show ∀ d ∈ compL, d.2 ≠ op by have h := HNO.out; rwa [List.take_of_length_le (show compL.length ≤ k by show 8 ≤ k; omega)] at h)
          clear HNO
          have HALL0 := HALL
          go_wp2_with fail
          go_roundw
          case rel => exact ⟨0 + 1, by omega, by rfl, Lib.hid ⟨fun _ => HALL0.out, fun h => HPR.out.2.1 (by omega), fun h => HPR.out.2.2 (by omega)⟩, (hbo.trans (hbr.mono hbo.size))⟩
          case measure => simp [intOf]
    · skip
      have HLL := Lib.hid (signs_keep HT.out.2.1 hbo)
      have hstart : Below wr.heap.size wr wr := Below.refl _ _
      have HLX := Lib.hid (LiesAt_up HLL.out hbo.size)
      go_wp2_with fail
      go_loopw [18, 6] (fun i _ wz => ∃ k : Nat, k ≤ 2 ∧ i = .int .i64 k ∧ Hid (∀ d ∈ sumsL.take k, d.2 ≠ op) ∧ Below wr.heap.size wr wz) (fun i _ _ => 2 - (intOf i).toNat)
      case atStart => exact ⟨0, Nat.zero_le _, rfl, Lib.hid (fun d h => by simp at h), hstart⟩
      case round =>
        obtain ⟨k, hk, rfl, HNO, hbr⟩ := hrel
        have hsr := hbr.size
        by_cases hlt : k < 2
        · have hlt' : k < sumsL.length := hlt
          obtain ⟨ad, ci, had, hb, hci, hcell⟩ := (signs_keep HLX.out hbr).at_ hlt'
          injection had with had
          subst had
          obtain ⟨d, hed⟩ : ∃ d, sumsL[k] = d := ⟨_, rfl⟩
          have hdm : d ∈ sumsL := by rw [← hed]; exact List.getElem_mem hlt'
          have HST := Lib.hid (show sumsL.take (k + 1) = sumsL.take k ++ [d] by rw [List.take_succ_eq_append_getElem hlt', hed])
          rw [hed] at hci
          have HDM := Lib.hid hdm
          have HLT := Lib.hid hlt
          obtain ⟨dw, dop⟩ := d
          have hci2 : ci = [.string dw, .int .i64 dop] := hci
          subst hci2
          have fc0 : wr.cell? (a1.add (k * 2)) = some (.string dw) := hcell 0 _ rfl
          have fc1 : wr.cell? ⟨(a1.add (k * 2)).block, (a1.add (k * 2)).off + 1, none⟩ = some (.int .i64 dop) := hcell 1 _ rfl
          have hk0 : (0 : Int) ≤ (k : Nat) := by omega
          have hk1 : (k : Int) < 2 := by omega
          clear hci hcell hed hdm hb hlt'
          by_cases ho : dop = op
          · subst ho
            have bo : (dop == dop) = true := by simp
            have HR := Lib.hid (show tx (infixT dop) = dw from (sign_word.2.1 _ HDM.out).symm)
            go_wp2_with fail
            go_ret
            exact ⟨by rw [HR.out]; try rfl, hbw.trans ((hbo.trans ((hbr.alloc hsr _).mono hbo.size)).mono hbw.size)⟩
          · have bo : (dop == op) = false := by simp [ho]
            have HNO2 := Lib.hid (show ∀ d ∈ sumsL.take (k + 1), d.2 ≠ op by
              rw [HST.out]
              intro x hx
              rcases List.mem_append.1 hx with h | h
              · exact HNO.out x h
              · rw [List.mem_singleton] at h; rw [h]; exact ho)
            clear ho
            go_wp2_with fail
            go_roundw
            case rel => exact ⟨k + 1, HLT.out, by go_num, HNO2, hbr.alloc hsr _⟩
            case measure =>
              have := HLT.out
              simp [intOf]
              omega
        · have HALL := Lib.hid (show ∀ d ∈ sumsL, d.2 ≠ op by have h := HNO.out; rwa [List.take_of_length_le (show sumsL.length ≤ k by show 2 ≤ k; omega)] at h)
          clear HNO
          have HALL1 := HALL
          go_wp2_with fail
          go_roundw
          case rel => exact ⟨1 + 1, by omega, by rfl, Lib.hid ⟨fun h => HPR.out.1 (by omega), fun _ => HALL1.out, fun h => HPR.out.2.2 (by omega)⟩, (hbo.trans (hbr.mono hbo.size))⟩
          case measure => simp [intOf]
    · skip
      have HLL := Lib.hid (signs_keep HT.out.2.2 hbo)
      have hstart : Below wr.heap.size wr wr := Below.refl _ _
      have HLX := Lib.hid (LiesAt_up HLL.out hbo.size)
      go_wp2_with fail
      go_loopw [18, 6] (fun i _ wz => ∃ k : Nat, k ≤ 3 ∧ i = .int .i64 k ∧ Hid (∀ d ∈ prodL.take k, d.2 ≠ op) ∧ Below wr.heap.size wr wz) (fun i _ _ => 3 - (intOf i).toNat)
      case atStart => exact ⟨0, Nat.zero_le _, rfl, Lib.hid (fun d h => by simp at h), hstart⟩
      case round =>
        obtain ⟨k, hk, rfl, HNO, hbr⟩ := hrel
        have hsr := hbr.size
        by_cases hlt : k < 3
        · have hlt' : k < prodL.length := hlt
          obtain ⟨ad, ci, had, hb, hci, hcell⟩ := (signs_keep HLX.out hbr).at_ hlt'
          injection had with had
          subst had
          obtain ⟨d, hed⟩ : ∃ d, prodL[k] = d := ⟨_, rfl⟩
          have hdm : d ∈ prodL := by rw [← hed]; exact List.getElem_mem hlt'
          have HST := Lib.hid (show prodL.take (k + 1) = prodL.take k ++ [d] by rw [List.take_succ_eq_append_getElem hlt', hed])
          rw [hed] at hci
          have HDM := Lib.hid hdm
          have HLT := Lib.hid hlt
          obtain ⟨dw, dop⟩ := d
          have hci2 : ci = [.string dw, .int .i64 dop] := hci
          subst hci2
          have fc0 : wr.cell? (a2.add (k * 2)) = some (.string dw) := hcell 0 _ rfl
          have fc1 : wr.cell? ⟨(a2.add (k * 2)).block, (a2.add (k * 2)).off + 1, none⟩ = some (.int .i64 dop) := hcell 1 _ rfl
          have hk0 : (0 : Int) ≤ (k : Nat) := by omega
          have hk1 : (k : Int) < 3 := by omega
          clear hci hcell hed hdm hb hlt'
          by_cases ho : dop = op
          · subst ho
            have bo : (dop == dop) = true := by simp
            have HR := Lib.hid (show tx (infixT dop) = dw from (sign_word.2.2 _ HDM.out).symm)
            go_wp2_with fail
            go_ret
            exact ⟨by rw [HR.out]; try rfl, hbw.trans ((hbo.trans ((hbr.alloc hsr _).mono hbo.size)).mono hbw.size)⟩
          · have bo : (dop == op) = false := by simp [ho]
            have HNO2 := Lib.hid (show ∀ d ∈ prodL.take (k + 1), d.2 ≠ op by
              rw [HST.out]
              intro x hx
              rcases List.mem_append.1 hx with h | h
              · exact HNO.out x h
              · rw [List.mem_singleton] at h; rw [h]; exact ho)
            clear ho
            go_wp2_with fail
            go_roundw
            case rel => exact ⟨k + 1, HLT.out, by go_num, HNO2, hbr.alloc hsr _⟩
            case measure =>
              have := HLT.out
              simp [intOf]
              omega
        · have HALL := Lib.hid (show ∀ d ∈ prodL, d.2 ≠ op by have h := HNO.out; rwa [List.take_of_length_le (show prodL.length ≤ k by show 3 ≤ k; omega)] at h)
          clear HNO
          have HALL2 := HALL
          go_wp2_with fail
          go_roundw
          case rel => exact ⟨2 + 1, by omega, by rfl, Lib.hid ⟨fun h => HPR.out.1 (by omega), fun h => HPR.out.2.1 (by omega), fun _ => HALL2.out⟩, (hbo.trans (hbr.mono hbo.size))⟩
          case measure => simp [intOf]
    · have HR := Lib.hid (show tx (infixT op) = ⟨#[]⟩ by rw [sign_none (HPR.out.1 (by omega)) (HPR.out.2.1 (by omega)) (HPR.out.2.2 (by omega))]; rfl)
      go_wp2_with fail
      go_ret
      exact ⟨by rw [HR.out]; try rfl, hbw.trans (hbo.mono hbw.size)⟩
end Go.Proofs.YtcmccjcelchlhaaGreatDoor
namespace Go.Proofs.YtcmccjcelchlhaaGreatDoor

/-! a part without fault -/
theorem fault_part {e : Ex} (h : e.fault = 0) : partF e = 0 := by
  rw [fault_eq] at h
  split at h
  · rename_i h1; exact absurd h h1
  · rename_i h1; exact Decidable.not_not.1 h1
theorem faultL_mem : ∀ {l : List Ex}, faultL l = 0 → ∀ a ∈ l, a.fault = 0
  | b :: r, h, a, ha => by
    rw [faultL] at h
    split at h
    · rename_i h1; exact absurd h h1
    · rename_i h1
      rcases List.mem_cons.1 ha with e | e
      · rw [e]; exact Decidable.not_not.1 h1
      · exact faultL_mem h a e
theorem fault_arg {e : Ex} (h : e.fault = 0) : ∀ a ∈ e.ar, a.fault = 0 := by
  have hp := fault_part h
  rw [fault_eq, if_neg (by rw [hp]; decide)] at h
  exact faultL_mem h
/-- what a part without fault is -/
structure PartOk (e : Ex) : Prop where
  k : 1 ≤ e.k ∧ e.k ≤ 5
  c : e.k = 1 → 2 ≤ e.v.k ∧ e.v.k ≤ 7
  a0 : e.k = 1 ∨ e.k = 2 ∨ e.k = 3 → e.ar = []
  op4 : e.k = 4 → 1 ≤ e.op ∧ e.op ≤ 39
  op5 : e.k = 5 → 1 ≤ e.op ∧ e.op ≤ 6
  a4 : e.k = 4 → (arOf e.op).1 ≤ e.ar.length ∧ e.ar.length ≤ (arOf e.op).2
  a5 : e.k = 5 → e.ar.length = 1
theorem outB_no {a b k : Int} (h : outB k a b = false) : a ≤ k ∧ k ≤ b := by
  unfold outB at h
  simp at h
  omega
theorem partOk {e : Ex} (h : partF e = 0) : PartOk e := by
  unfold partF partB at h
  by_cases c1 : outB e.k 1 5 = true
  · rw [if_pos c1] at h; exact absurd h (by decide)
  rw [if_neg c1] at h
  by_cases c2 : e.k = 4 ∧ outB e.op 1 39 = true
  · rw [if_pos c2] at h; exact absurd h (by decide)
  rw [if_neg c2] at h
  by_cases c3 : e.k = 5 ∧ outB e.op 1 6 = true
  · rw [if_pos c3] at h; exact absurd h (by decide)
  rw [if_neg c3] at h
  by_cases c4 : extraB e.k e.op e.nm e.v e.ar.length = true
  · rw [if_pos c4] at h; exact absurd h (by decide)
  rw [if_neg c4] at h
  have hk := outB_no (Bool.not_eq_true _ ▸ c1)
  unfold extraB at c4
  split at c4
  · exact absurd rfl c4
  rename_i hx
  refine ⟨hk, fun e1 => ?_, fun e1 => ?_, fun e1 => ?_, fun e1 => ?_, fun e1 => ?_, fun e1 => ?_⟩
  · rw [if_pos e1] at h
    split at h
    · exact absurd h (by decide)
    · rename_i hv
      unfold checkV at h
      split at h
      · exact absurd h (by decide)
      · rename_i hr
        have := outB_no (Bool.not_eq_true _ ▸ hr)
        omega
  · refine List.eq_nil_of_length_eq_zero ?_
    by_cases h0 : 0 < e.ar.length
    · exact absurd (Or.inr (Or.inl ⟨by omega, Or.inr h0⟩)) hx
    · omega
  · exact outB_no (Bool.not_eq_true _ ▸ fun q => c2 ⟨e1, q⟩)
  · exact outB_no (Bool.not_eq_true _ ▸ fun q => c3 ⟨e1, q⟩)
  · rw [if_neg (by omega)] at c4
    simp [e1] at c4
    exact c4
  · rw [if_pos e1] at c4
    simpa using c4
end Go.Proofs.YtcmccjcelchlhaaGreatDoor
namespace Go.Proofs.YtcmccjcelchlhaaGreatDoor.Vtx
open Go.Lib Dig

theorem trimRight_split (l : List UInt8) (c : UInt8) : ∃ k, l = trimRightB l c ++ List.replicate k c := by
  have h := List.takeWhile_append_dropWhile (p := fun b : UInt8 => b == c) (l := l.reverse)
  have hr : l = (l.reverse.dropWhile (· == c)).reverse ++ (l.reverse.takeWhile (· == c)).reverse := by
    have := congrArg List.reverse h
    rw [List.reverse_append, List.reverse_reverse] at this
    exact this.symm
  refine ⟨(l.reverse.takeWhile (· == c)).length, ?_⟩
  have hk : (l.reverse.takeWhile (· == c)).reverse = List.replicate (l.reverse.takeWhile (· == c)).length c := by
    rw [List.eq_replicate_iff]
    refine ⟨by simp, fun b hb => ?_⟩
    have := List.all_eq_true.1 (List.all_takeWhile (p := fun b : UInt8 => b == c) (l := l.reverse)) b (List.mem_reverse.1 hb)
    simpa using this
  rw [← hk]
  exact hr
theorem frac_pad {m : Nat} (h : m < 10000) : padR (fracT m) 4 = padT 4 m ∧ (fracT m).length ≤ 4 := by
  have hl : (decDigits m).length ≤ 4 := dec_len 3 m h
  obtain ⟨k, hk⟩ := trimRight_split (padT 4 m) 48
  have hlen := pad_len hl
  have e := congrArg List.length hk
  rw [hlen] at e
  simp only [List.length_append, List.length_replicate] at e
  unfold padR fracT
  refine ⟨?_, by omega⟩
  rw [show 4 - (trimRightB (padT 4 (m : Int)) 48).length = k by omega]
  exact hk.symm
theorem frac_dig (m : Nat) : ∀ b ∈ fracT m, isDig b := by
  intro b hb
  obtain ⟨k, hk⟩ := trimRight_split (padT 4 m) 48
  exact pad_dig 4 m b (by rw [hk]; exact List.mem_append_left _ hb)
theorem frac_nil {m : Nat} (h : m < 10000) : fracT m = [] ↔ m = 0 := by
  constructor
  · intro e
    have := (frac_pad h).1
    rw [e] at this
    have h2 := congrArg digVal this
    rw [pad_val] at h2
    rw [← h2]; rfl
  · intro e
    subst e
    decide +kernel
/-- the number's parts -/
theorem num_parts {n : Int} (h1 : -999999999999999 ≤ n) (h2 : n ≤ 999999999999999) : ∃ F M : Nat, F ≤ 99999999999 ∧ M < 10000 ∧ absI n = ((F * 10000 + M : Nat) : Int) ∧
    numT n = (if n < 0 then [45] else []) ++ decDigits F ++ (if fracT M = [] then [] else 46 :: fracT M) := by
  have ha : 0 ≤ absI n ∧ absI n ≤ 999999999999999 := by unfold absI; split <;> omega
  refine ⟨(absI n).toNat / 10000, (absI n).toNat % 10000, by omega, by omega, by omega, ?_⟩
  have e1 : absI n / 10000 = (((absI n).toNat / 10000 : Nat) : Int) := by omega
  have e2 : absI n % 10000 = (((absI n).toNat % 10000 : Nat) : Int) := by omega
  unfold numT
  rw [e1, e2, itoa_nat]
theorem dec_head_dig (F : Nat) : ∃ b r, decDigits F = b :: r ∧ isDig b := by
  cases h : decDigits F with
  | nil => exact absurd h (dec_ne F)
  | cons b r => exact ⟨b, r, rfl, dig_dec F b (by rw [h]; exact List.mem_cons_self ..)⟩
theorem dig_byte {b : UInt8} (h : isDig b) {c : UInt8} (hc : ¬ isDig c) : b ≠ c := fun e => hc (e ▸ h)
theorem pre45_dig {l : List UInt8} {b : UInt8} {r : List UInt8} (e : l = b :: r) (h : isDig b) : hasPrefix l [45] = false := by
  subst e
  simp [hasPrefix, List.isPrefixOf]
  exact fun e => dig_byte h nd45 e.symm
theorem trim45_dig {l : List UInt8} {b : UInt8} {r : List UInt8} (e : l = b :: r) (h : isDig b) : trimPrefix l [45] = l := by
  unfold trimPrefix; rw [pre45_dig e h]; simp
theorem trim45_neg (l : List UInt8) : trimPrefix ([45] ++ l) [45] = l ∧ hasPrefix ([45] ++ l) [45] = true := by
  have h : hasPrefix ([45] ++ l) [45] = true := by simp [hasPrefix, List.isPrefixOf]
  exact ⟨by unfold trimPrefix; rw [if_pos h]; rfl, h⟩
theorem cut_num (F M : Nat) : (cut (decDigits F ++ (if fracT M = [] then [] else 46 :: fracT M)) [46]).1 = decDigits F ∧ (cut (decDigits F ++ (if fracT M = [] then [] else 46 :: fracT M)) [46]).2.1 = fracT M := by
  have hF : (46 : UInt8) ∉ decDigits F := dig_ne (dig_dec F) nd46
  by_cases h : fracT M = []
  · rw [if_pos h, List.append_nil, cut_none hF, h]; exact ⟨rfl, rfl⟩
  · rw [if_neg h, cut_at _ hF]; exact ⟨rfl, rfl⟩
theorem num_read {n : Int} (h1 : -999999999999999 ≤ n) (h2 : n ≤ 999999999999999) : readNumF (numT n) = some n := by
  obtain ⟨F, M, hF, hM, hA, e⟩ := num_parts h1 h2
  obtain ⟨c1, c2⟩ := cut_num F M
  obtain ⟨p1, p2⟩ := frac_pad hM
  have wF := whole_dec (n := F) (by have := dec_len 10 F (by omega); omega)
  have wM := whole_pad (w := 4) (n := M) (dec_len 3 M hM) (by decide)
  have lM := pad_len (w := 4) (n := M) (dec_len 3 M hM)
  have key : ∀ s, trimPrefix s [45] = decDigits F ++ (if fracT M = [] then [] else 46 :: fracT M) → readNumF s = some (if (decDigits F ++ (if fracT M = [] then [] else 46 :: fracT M)).length < s.length then -((F * 10000 + M : Nat) : Int) else ((F * 10000 + M : Nat) : Int)) := by
    intro s hs
    unfold readNumF
    simp only [hs, c1, c2, p1, wF, wM, lM]
    rw [if_pos ⟨trivial, trivial, by decide, hF⟩]
  by_cases hn : n < 0
  · rw [if_pos hn, List.append_assoc] at e
    rw [key _ (by rw [e]; exact (trim45_neg _).1), e, if_pos (by simp), ← hA]
    unfold absI; rw [if_pos hn]; simp
  · rw [if_neg hn, List.nil_append] at e
    obtain ⟨b, r, hb, hd⟩ := dec_head_dig F
    rw [key _ (by rw [e]; exact trim45_dig (by rw [hb]; rfl) hd), e, if_neg (by omega), ← hA]
    unfold absI; rw [if_neg hn]
/-! Atoi of digits -/
theorem parse_dig : ∀ (l : List UInt8) (acc : Nat), (∀ b ∈ l, isDig b) → l.length ≤ 18 → acc < 10 ^ (18 - l.length) → parseUint10 acc l = .ok (acc * 10 ^ l.length + digVal l)
  | [], acc, _, _, _ => by simp [parseUint10, digVal]
  | b :: r, acc, h, hl, ha => by
    have hb := h b (List.mem_cons_self ..)
    unfold isDig at hb
    simp only [List.length_cons] at hl ha
    have h17 : acc < 10 ^ 17 := Nat.lt_of_lt_of_le ha (Nat.pow_le_pow_right (by omega) (by omega))
    have hnext : acc * 10 + (b.toNat - 48) < 10 ^ (18 - r.length) := by
      rw [show 18 - r.length = (18 - (r.length + 1)) + 1 by omega, Nat.pow_succ]
      omega
    have h18 : acc * 10 + (b.toNat - 48) < 10 ^ 18 := Nat.lt_of_lt_of_le hnext (Nat.pow_le_pow_right (by omega) (by omega))
    unfold parseUint10
    rw [if_pos hb, if_neg (by omega), if_neg (by omega), parse_dig r _ (fun x hx => h x (List.mem_cons_of_mem _ hx)) (by omega) hnext, digVal_cons]
    congr 1
    rw [List.length_cons, Nat.pow_succ, Nat.add_mul, Nat.add_assoc, Nat.mul_assoc, Nat.mul_comm 10]
theorem atoiN_dig {l : List UInt8} (h : ∀ b ∈ l, isDig b) (h0 : l ≠ []) (hl : l.length ≤ 18) : atoiN l = (digVal l : Int) := by
  have hp := parse_dig l 0 h hl (Nat.pow_pos (by omega))
  have hv : digVal l < 10 ^ 18 := by
    have : ∀ (l : List UInt8), (∀ b ∈ l, isDig b) → digVal l < 10 ^ l.length := by
      intro l
      induction l with
      | nil => intro _; decide
      | cons b r ih =>
        intro h
        have hb := h b (List.mem_cons_self ..)
        have := ih (fun x hx => h x (List.mem_cons_of_mem _ hx))
        unfold isDig at hb
        rw [digVal_cons, List.length_cons, Nat.pow_succ]
        have : (b.toNat - 48) * 10 ^ r.length ≤ 9 * 10 ^ r.length := Nat.mul_le_mul_right _ (by omega)
        omega
    exact Nat.lt_of_lt_of_le (this l h) (Nat.pow_le_pow_right (by omega) hl)
  cases l with
  | nil => exact absurd rfl h0
  | cons b r =>
    have hb := h b (List.mem_cons_self ..)
    unfold isDig at hb
    simp only [Nat.zero_mul, Nat.zero_add] at hp
    unfold atoiN atoiAll
    have hc : ¬ (b.toNat = 43 ∨ b.toNat = 45) := by omega
    simp only [hc, if_false]
    unfold parseMag
    rw [if_neg h0, hp]
    have hneg : ¬ b.toNat = 45 := by omega
    simp only [hneg, not_false_eq_true, true_and, false_and, if_false]
    rw [if_neg (by omega)]
theorem atoiN_dec {n : Nat} (h : n < 10 ^ 18) : atoiN (decDigits n) = n := by rw [atoiN_dig (dig_dec n) (dec_ne n) (dec_len 17 n h), digVal_dec]
theorem atoiN_pad {w n : Nat} (h : (decDigits n).length ≤ w) (hw : w ≤ 18) : atoiN (padT w n) = n := by
  rw [atoiN_dig (pad_dig w n) (pad_ne w n) (by rw [pad_len h]; exact hw), pad_val]
theorem num_dec {n : Int} (h1 : -999999999999999 ≤ n) (h2 : n ≤ 999999999999999) : readDecF (numT n) = n := by
  obtain ⟨F, M, hF, hM, hA, e⟩ := num_parts h1 h2
  obtain ⟨c1, c2⟩ := cut_num F M
  obtain ⟨p1, p2⟩ := frac_pad hM
  have aF := atoiN_dec (n := F) (by omega)
  have aM := atoiN_pad (w := 4) (n := M) (dec_len 3 M hM) (by decide)
  have lF := dec_len 10 F (by omega)
  unfold padR at p1
  have key : ∀ s, trimPrefix s [45] = decDigits F ++ (if fracT M = [] then [] else 46 :: fracT M) → readDecF s = if hasPrefix s [45] then -((F : Int) * 10000 + M) else (F : Int) * 10000 + M := by
    intro s hs
    unfold readDecF
    simp only [hs, c1, c2, p1, aF, aM]
    rw [if_neg (by omega)]
  by_cases hn : n < 0
  · rw [if_pos hn, List.append_assoc] at e
    rw [key _ (by rw [e]; exact (trim45_neg _).1), e, if_pos (trim45_neg _).2]
    unfold absI at hA; rw [if_pos hn] at hA; omega
  · rw [if_neg hn, List.nil_append] at e
    obtain ⟨b, r, hb, hd⟩ := dec_head_dig F
    rw [key _ (by rw [e]; exact trim45_dig (by rw [hb]; rfl) hd), e, pre45_dig (by rw [hb]; rfl) hd, if_neg (by decide)]
    unfold absI at hA; rw [if_neg hn] at hA; omega
end Go.Proofs.YtcmccjcelchlhaaGreatDoor.Vtx
namespace Go.Proofs.YtcmccjcelchlhaaGreatDoor.Vtx
open Go.Lib Dig

theorem code_nat {c : Int} (h : 0 ≤ c) : codeT c = 35 :: decDigits c.toNat := by
  unfold codeT
  obtain ⟨m, rfl⟩ : ∃ m : Nat, c = m := ⟨c.toNat, by omega⟩
  rw [itoa_nat]; simp
theorem code_no {c : Int} (h : 0 ≤ c) {x : UInt8} (hx : ¬ isDig x) (h35 : x ≠ 35) : x ∉ codeT c := by
  rw [code_nat h]
  intro hm
  rcases List.mem_cons.1 hm with e | e
  · exact h35 e
  · exact hx (dig_dec _ x e)
theorem trim35 (l : List UInt8) : trimPrefix (35 :: l) [35] = l := by simp [trimPrefix, hasPrefix, List.isPrefixOf]
theorem codes_back : ∀ {l : List Int}, (∀ c ∈ l, 1 ≤ c ∧ c ≤ 999) → codesF (l.map codeT) = some l
  | [], _ => rfl
  | c :: r, h => by
    have hc := h c (List.mem_cons_self ..)
    have hw := whole_dec (n := c.toNat) (by have := dec_len 2 c.toNat (by omega); omega)
    simp only [List.map_cons, codesF]
    rw [code_nat (by omega), trim35, hw, if_pos rfl, codes_back (fun x hx => h x (List.mem_cons_of_mem _ hx))]
    simp
    omega
theorem codesC_back {l : List Int} (h : ∀ c ∈ l, 1 ≤ c ∧ c ≤ 999) : codesC (l.map codeT) = l := by
  unfold codesC
  induction l with
  | nil => rfl
  | cons c r ih =>
    have hc := h c (List.mem_cons_self ..)
    have hn : codeT c ≠ [] := by unfold codeT; simp
    rw [List.map_cons, List.filter_cons_of_pos (by simpa using hn), List.map_cons, ih (fun x hx => h x (List.mem_cons_of_mem _ hx)), code_nat (by omega), trim35,
      atoiN_dec (Nat.lt_of_le_of_lt (show c.toNat ≤ 999 by omega) (by decide))]
    congr 1
    omega
theorem join_codes {c : Int} {r : List Int} (h : ∀ x ∈ c :: r, 1 ≤ x ∧ x ≤ 999) : (∃ t, join ((c :: r).map codeT) [44] = 35 :: t) ∧ (∃ t b, join ((c :: r).map codeT) [44] = t ++ [b] ∧ isDig b) := by
  have hd : ∀ (c : Int), 1 ≤ c → ∃ t b, codeT c = t ++ [b] ∧ isDig b := by
    intro c hc
    rw [code_nat (by omega)]
    have hne := dec_ne c.toNat
    refine ⟨35 :: (decDigits c.toNat).dropLast, (decDigits c.toNat).getLast hne, ?_, dig_dec _ _ (List.getLast_mem hne)⟩
    rw [List.cons_append, List.dropLast_concat_getLast]
  constructor
  · rw [List.map_cons, join_cons, code_nat (by have := h c (List.mem_cons_self ..); omega)]
    exact ⟨_, rfl⟩
  · induction r generalizing c with
    | nil =>
      rw [List.map_cons, List.map_nil, join_one]
      exact hd c (h c (List.mem_cons_self ..)).1
    | cons d r ih =>
      obtain ⟨t, b, e, hb⟩ := ih (c := d) (fun x hx => h x (List.mem_cons_of_mem _ hx))
      have e2 : join ((c :: d :: r).map codeT) [44] = codeT c ++ 44 :: join ((d :: r).map codeT) [44] := by
        simp only [List.map_cons]
        rw [join_cons, join_cons]; simp [joinTail]
      rw [e2, e]
      exact ⟨codeT c ++ 44 :: t, b, by simp, hb⟩
theorem inner_set (l : List Int) : innerF (setT l) = join (l.map codeT) [44] := by
  unfold innerF setT
  have h1 : trimPrefix (123 :: join (l.map codeT) [44] ++ [125]) [123] = join (l.map codeT) [44] ++ [125] := by simp [trimPrefix, hasPrefix, List.isPrefixOf]
  rw [h1]
  have h2 : hasSuffix (join (l.map codeT) [44] ++ [125]) [125] = true := by
    unfold hasSuffix
    rw [List.isSuffixOf_iff_suffix]
    exact ⟨_, rfl⟩
  unfold trimSuffix
  rw [if_pos h2]
  simp
theorem codes_no {l : List Int} (h : ∀ c ∈ l, 1 ≤ c ∧ c ≤ 999) : ∀ p ∈ l.map codeT, (44 : UInt8) ∉ p := by
  intro p hp
  obtain ⟨c, hc, rfl⟩ := List.mem_map.1 hp
  exact code_no (by have := h c hc; omega) nd44 (by decide)
theorem set_read {l : List Int} (h : ∀ c ∈ l, 1 ≤ c ∧ c ≤ 999) : readSetF (setT l) = some l := by
  unfold readSetF
  rw [inner_set]
  cases l with
  | nil => rfl
  | cons c r =>
    obtain ⟨⟨t, ht⟩, -⟩ := join_codes h
    rw [if_neg (by rw [ht]; simp), split_join (by simp) (codes_no h), codes_back h]
theorem trim_set {l : List Int} (h : ∀ c ∈ l, 1 ≤ c ∧ c ≤ 999) : trimS (setT l) [123, 125] = join (l.map codeT) [44] := by
  unfold setT
  cases l with
  | nil => decide
  | cons c r =>
    obtain ⟨⟨t, ht⟩, ⟨t', b, ht', hb⟩⟩ := join_codes h
    have hR : trimRightS (123 :: join ((c :: r).map codeT) [44] ++ [125]) [123, 125] = 123 :: join ((c :: r).map codeT) [44] := by
      unfold trimRightS
      rw [ht']
      have hb1 : [123, 125].contains b = false := by
        unfold isDig at hb
        rw [Bool.eq_false_iff]
        intro e
        simp at e
        rcases e with e | e <;> (subst e; revert hb; decide)
      have e : (123 :: (t' ++ [b]) ++ [125]).reverse = 125 :: b :: (t'.reverse ++ [123]) := by simp
      rw [e, List.dropWhile_cons_of_pos (by decide), List.dropWhile_cons_of_neg (by rw [hb1]; decide)]
      simp
    unfold trimS
    rw [hR, ht]
    unfold trimLeftS
    rw [List.dropWhile_cons_of_pos (by decide), List.dropWhile_cons_of_neg (by decide)]
theorem set_cand {l : List Int} (h : ∀ c ∈ l, 1 ≤ c ∧ c ≤ 999) : codesC (split (trimS (setT l) [123, 125]) [44]) = l := by
  rw [trim_set h]
  cases l with
  | nil => decide
  | cons c r => rw [split_join (by simp) (codes_no h), codesC_back h]
/-! days -/
theorem day_parts {n : Int} (h1 : -25567 ≤ n) (h2 : n ≤ 84005) : ∃ y m d : Nat, Cal.cy n = y ∧ Cal.cm n = m ∧ Cal.cd n = d ∧ y < 10000 ∧ m < 100 ∧ d < 100 ∧ Cal.okDate y m d = true ∧ Cal.num y m d = n := by
  have h := Cal.civ_spec h1 h2
  have hr := Cal.range_year h1 h2 h.year.1 h.year.2
  have hb := Cal.dim_bd (Cal.cy n) (Cal.cm n)
  have hm1 := h.m1
  have hm2 := h.m2
  have hd1 := h.d1
  have hd2 := h.d2
  have hok : Cal.okDate (Cal.cy n) (Cal.cm n) (Cal.cd n) = true := by rw [Cal.okDate_iff]; exact ⟨hr, ⟨h.m1, h.m2⟩, h.d1, h.d2⟩
  have ey : Cal.cy n = ((Cal.cy n).toNat : Int) := by omega
  have em : Cal.cm n = ((Cal.cm n).toNat : Int) := by omega
  have ed : Cal.cd n = ((Cal.cd n).toNat : Int) := by omega
  refine ⟨(Cal.cy n).toNat, (Cal.cm n).toNat, (Cal.cd n).toNat, ey, em, ed, by omega, by omega, by omega, ?_, ?_⟩
  · rw [← ey, ← em, ← ed]; exact hok
  · rw [← ey, ← em, ← ed]; exact h.eq
theorem day_read {n : Int} (h1 : -25567 ≤ n) (h2 : n ≤ 84005) : readDayF (dayT n).tail = some n := by
  obtain ⟨y, m, d, ey, em, ed, hy, hm, hd, hok, hn⟩ := day_parts h1 h2
  have ly := dec_len 3 y hy
  have lm := dec_len 1 m hm
  have ld := dec_len 1 d hd
  have e : (dayT n).tail = padT 4 y ++ 45 :: (padT 2 m ++ 45 :: padT 2 d) := by
    unfold dayT
    rw [ey, em, ed]
    simp
  unfold readDayF
  rw [e, split_at _ (dig_ne (pad_dig 4 y) nd45), split_at _ (dig_ne (pad_dig 2 m) nd45), split_one (dig_ne (pad_dig 2 d) nd45)]
  simp only [whole_pad ly (by decide), whole_pad lm (by decide), whole_pad ld (by decide)]
  rw [if_pos (by simp [hok]), hn]
theorem day_cand {n : Int} (h1 : -25567 ≤ n) (h2 : n ≤ 84005) : (dayT n).length = 11 ∧ dateK (atoiN (((dayT n).take 5).drop 1)) (atoiN (((dayT n).take 8).drop 6)) (atoiN ((dayT n).drop 9)) = 6 ∧
    dateN (atoiN (((dayT n).take 5).drop 1)) (atoiN (((dayT n).take 8).drop 6)) (atoiN ((dayT n).drop 9)) = n := by
  obtain ⟨y, m, d, ey, em, ed, hy, hm, hd, hok, hn⟩ := day_parts h1 h2
  have ly := dec_len 3 y hy
  have lm := dec_len 1 m hm
  have ld := dec_len 1 d hd
  have py := pad_len (w := 4) (n := y) ly
  have pm := pad_len (w := 2) (n := m) lm
  have pd := pad_len (w := 2) (n := d) ld
  have ay := atoiN_pad (w := 4) (n := y) ly (by decide)
  have am := atoiN_pad (w := 2) (n := m) lm (by decide)
  have ad := atoiN_pad (w := 2) (n := d) ld (by decide)
  have e : dayT n = 64 :: (padT 4 y ++ 45 :: (padT 2 m ++ 45 :: padT 2 d)) := by
    unfold dayT
    rw [ey, em, ed]
    simp
  have s1 : ((dayT n).take 5).drop 1 = padT 4 y := by
    rw [e, List.take_succ_cons, List.drop_succ_cons, List.drop_zero, List.take_left' py]
  have s2 : ((dayT n).take 8).drop 6 = padT 2 m := by
    have e2 : dayT n = (64 :: (padT 4 y ++ [45])) ++ (padT 2 m ++ (45 :: padT 2 d)) := by rw [e]; simp
    have l1 : (64 :: (padT 4 y ++ [45])).length = 6 := by simp [py]
    rw [List.drop_take, e2, ← l1, List.drop_left, l1, show 8 - 6 = 2 from rfl, List.take_left' pm]
  have s3 : (dayT n).drop 9 = padT 2 d := by
    have e2 : dayT n = (64 :: (padT 4 y ++ [45] ++ padT 2 m ++ [45])) ++ padT 2 d := by rw [e]; simp
    have l1 : (64 :: (padT 4 y ++ [45] ++ padT 2 m ++ [45])).length = 9 := by simp [py, pm]
    rw [e2, ← l1, List.drop_left]
  rw [s1, s2, s3, ay, am, ad]
  unfold dateK dateN
  rw [if_pos hok, if_pos hok, hn]
  refine ⟨?_, rfl, rfl⟩
  rw [e]; simp [py, pm, pd]
/-! all -/
theorem num_head {n : Int} (h1 : -999999999999999 ≤ n) (h2 : n ≤ 999999999999999) : ∃ b r, numT n = b :: r ∧ (isDig b ∨ (b = 45 ∧ ∃ c t, r = c :: t)) := by
  obtain ⟨F, M, hF, hM, hA, e⟩ := num_parts h1 h2
  obtain ⟨b, r, hb, hd⟩ := dec_head_dig F
  by_cases hn : n < 0
  · rw [if_pos hn, hb] at e
    exact ⟨45, _, by rw [e]; rfl, .inr ⟨rfl, _, _, rfl⟩⟩
  · rw [if_neg hn, hb] at e
    exact ⟨b, _, by rw [e]; rfl, .inl hd⟩
theorem num_not {n : Int} (h1 : -999999999999999 ≤ n) (h2 : n ≤ 999999999999999) : numT n ≠ [] ∧ numT n ≠ [45] ∧ numT n ≠ trueT ∧ numT n ≠ falseT ∧ (numT n).head? ≠ some 39 ∧ (numT n).head? ≠ some 35 ∧ (numT n).head? ≠ some 123 ∧ (numT n).head? ≠ some 64 ∧ numT n ≠ w1T ∧ numT n ≠ w2T ∧ numT n ≠ w3T := by
  obtain ⟨b, r, e, h⟩ := num_head h1 h2
  rw [e]
  have hne : ∀ c : UInt8, ¬ isDig c → c ≠ 45 → b ≠ c := by
    intro c hc hc' hb
    rcases h with h | ⟨h, -⟩
    · exact hc (hb ▸ h)
    · exact hc' (hb ▸ h)
  have k : ∀ c : UInt8, ¬ isDig c → c ≠ 45 → ∀ t, b :: r ≠ c :: t := fun c h1 h2 t e => hne c h1 h2 (List.cons.inj e).1
  have hh : ∀ c : UInt8, ¬ isDig c → c ≠ 45 → (b :: r).head? ≠ some c := fun c h1 h2 e => hne c h1 h2 (by simpa using e)
  refine ⟨by simp, ?_, k _ (by unfold isDig; decide) (by decide) _, k _ (by unfold isDig; decide) (by decide) _, hh _ (by unfold isDig; decide) (by decide), hh _ (by unfold isDig; decide) (by decide), hh _ (by unfold isDig; decide) (by decide), hh _ (by unfold isDig; decide) (by decide), k _ (by unfold isDig; decide) (by decide) _, k _ (by unfold isDig; decide) (by decide) _, k _ (by unfold isDig; decide) (by decide) _⟩
  intro e2
  rcases h with h | ⟨-, c, t, hr⟩
  · exact nd45 ((List.cons.inj e2).1 ▸ h)
  · rw [hr] at e2; cases (List.cons.inj e2).2
theorem text_tail (s : List UInt8) : trimSuffix (replaceAll s [39] [39, 39] ++ [39]) [39] = replaceAll s [39] [39, 39] := by
  have h2 : hasSuffix (replaceAll s [39] [39, 39] ++ [39]) [39] = true := by
    unfold hasSuffix
    rw [List.isSuffixOf_iff_suffix]
    exact ⟨_, rfl⟩
  unfold trimSuffix
  rw [if_pos h2]
  simp
theorem guess_show {k n : Int} {s : List UInt8} {l : List Int} (h : Snd k n s l) : guessF (showT k n s l) = some ⟨k, n, s, l⟩ := by
  cases h with
  | none_ => decide +kernel
  | word h1 h2 =>
    obtain rfl | rfl | rfl : n = 1 ∨ n = 2 ∨ n = 3 := by omega
    all_goals rfl
  | num h1 h2 =>
    obtain ⟨a1, a2, a3, a4, a5, a6, a7, a8, a9, a10, a11⟩ := num_not h1 h2
    show guessF (numT n) = _
    unfold guessF
    rw [if_neg a1, if_neg a2, if_neg a3, if_neg a4, if_neg a5, if_neg a6, if_neg a7, if_neg a8, if_neg a9, if_neg a10, if_neg a11, num_read h1 h2]
    rfl
  | text s =>
    show guessF (textT s) = _
    unfold guessF textT
    rw [if_neg (by simp), if_neg (by simp), if_neg (by simp [trueT]), if_neg (by simp [falseT]), if_pos (by simp)]
    simp only [List.cons_append, List.tail_cons]
    rw [text_tail, back]
  | code h1 h2 =>
    show guessF (codeT n) = _
    have hw := whole_dec (n := n.toNat) (by have := dec_len 2 n.toNat (by omega); omega)
    rw [code_nat (by omega)]
    unfold guessF
    rw [if_neg (by simp), if_neg (by simp), if_neg (by simp [trueT]), if_neg (by simp [falseT]), if_neg (by simp), if_pos (by simp)]
    simp only [List.tail_cons, hw, if_true]
    rw [show ((n.toNat : Nat) : Int) = n by omega]
  | set h =>
    show guessF (setT l) = _
    have e : (setT l).head? = some 123 := by simp [setT]
    unfold guessF
    rw [if_neg (by simp [setT]), if_neg (by simp [setT]), if_neg (by simp [setT, trueT]), if_neg (by simp [setT, falseT]), if_neg (by rw [e]; simp), if_neg (by rw [e]; simp), if_pos e, set_read h]
    rfl
  | day h1 h2 =>
    show guessF (dayT n) = _
    have e : (dayT n).head? = some 64 := by simp [dayT]
    unfold guessF
    rw [if_neg (by simp [dayT]), if_neg (by simp [dayT]), if_neg (by simp [dayT, trueT]), if_neg (by simp [dayT, falseT]), if_neg (by rw [e]; simp), if_neg (by rw [e]; simp), if_neg (by rw [e]; simp), if_pos e, day_read h1 h2]
    rfl
  | bool h1 h2 =>
    obtain rfl | rfl : n = 0 ∨ n = 1 := by omega
    all_goals rfl
theorem cand_show {k n : Int} {s : List UInt8} {l : List Int} (h : Snd k n s l) : candF (showT k n s l) = ⟨k, n, s, l⟩ := by
  cases h with
  | none_ => rfl
  | word h1 h2 =>
    obtain rfl | rfl | rfl : n = 1 ∨ n = 2 ∨ n = 3 := by omega
    all_goals rfl
  | num h1 h2 =>
    obtain ⟨a1, a2, a3, a4, a5, a6, a7, a8, a9, a10, a11⟩ := num_not h1 h2
    show candF (numT n) = _
    unfold candF
    rw [if_neg a9, if_neg a10, if_neg a11, if_neg a2, if_neg a3, if_neg a4, if_neg (fun h => a5 h.2), if_neg a6, if_neg a7, if_neg (fun h => a8 h.2), num_dec h1 h2]
  | text s =>
    show candF (textT s) = _
    unfold candF textT
    rw [if_neg (by simp [w1T]), if_neg (by simp [w2T]), if_neg (by simp [w3T]), if_neg (by simp), if_neg (by simp [trueT]), if_neg (by simp [falseT]), if_pos (by simp)]
    have e : ((39 :: replaceAll s [39] [39, 39] ++ [39]).take ((39 :: replaceAll s [39] [39, 39] ++ [39]).length - 1)).drop 1 = replaceAll s [39] [39, 39] := by
      generalize replaceAll s [39] [39, 39] = E
      have hl : (39 :: E ++ [39]).length - 1 = (39 :: E).length := by simp
      rw [hl, List.take_left]
      rfl
    rw [e, back]
  | code h1 h2 =>
    show candF (codeT n) = _
    rw [code_nat (by omega)]
    unfold candF
    rw [if_neg (by simp [w1T]), if_neg (by simp [w2T]), if_neg (by simp [w3T]), if_neg (by simp), if_neg (by simp [trueT]), if_neg (by simp [falseT]), if_neg (by simp), if_pos (by simp)]
    simp only [List.tail_cons]
    rw [atoiN_dec (Nat.lt_of_le_of_lt (show n.toNat ≤ 999 by omega) (by decide)), show ((n.toNat : Nat) : Int) = n by omega]
  | set h =>
    show candF (setT l) = _
    have e : (setT l).head? = some 123 := by simp [setT]
    unfold candF
    rw [if_neg (by simp [setT, w1T]), if_neg (by simp [setT, w2T]), if_neg (by simp [setT, w3T]), if_neg (by simp [setT]), if_neg (by simp [setT, trueT]), if_neg (by simp [setT, falseT]), if_neg (by rw [e]; simp), if_neg (by rw [e]; simp), if_pos e, set_cand h]
  | day h1 h2 =>
    show candF (dayT n) = _
    have e : (dayT n).head? = some 64 := by simp [dayT]
    obtain ⟨d1, d2, d3⟩ := day_cand h1 h2
    unfold candF
    rw [if_neg (by simp [dayT, w1T]), if_neg (by simp [dayT, w2T]), if_neg (by simp [dayT, w3T]), if_neg (by simp [dayT]), if_neg (by simp [dayT, trueT]), if_neg (by simp [dayT, falseT]), if_neg (by rw [e]; simp), if_neg (by rw [e]; simp), if_neg (by rw [e]; simp), if_pos ⟨d1, e⟩, d2, d3]
  | bool h1 h2 =>
    obtain rfl | rfl : n = 0 ∨ n = 1 := by omega
    all_goals rfl
end Go.Proofs.YtcmccjcelchlhaaGreatDoor.Vtx
namespace Go.Proofs.YtcmccjcelchlhaaGreatDoor
open Go.RowKit Dig Vtx

theorem ba_of {t : ByteArray} {l : List UInt8} (h : t.data.toList = l) : t = ⟨l.toArray⟩ := by subst h; rfl
theorem dsize {t : ByteArray} {l : List UInt8} (h : t.data.toList = l) : t.size = l.length := by rw [← h]; rfl
theorem toList_app (a b : ByteArray) : (a ++ b).data.toList = a.data.toList ++ b.data.toList := by rw [ByteArray.data_append, Array.toList_append]
theorem ret_str {a b : ByteArray} (h : a.data.toList = b.data.toList) : Ending.returned (.string a) = .returned (.string b) := by rw [ba_of h]
theorem ret_str' {a : ByteArray} {l : List UInt8} (h : a.data.toList = l) : Ending.returned (.string a) = .returned (.string ⟨l.toArray⟩) := by rw [ba_of h]

def wholeV (l : List UInt8) : Value := .tuple #[.int .i64 ((wholeF l).1 : Nat), .bool (wholeF l).2]
theorem wholeV_no {l : List UInt8} (h : l = [] ∨ 15 < l.length) : wholeV l = .tuple #[.int .i64 0, .bool false] := by unfold wholeV wholeF; rw [if_pos h]; rfl
theorem wholeV_bad {l : List UInt8} (h : l.all digB = false) : wholeV l = .tuple #[.int .i64 0, .bool false] := by
  unfold wholeV wholeF
  split
  · rfl
  · rw [h]; rfl
theorem wholeV_ok {l : List UInt8} (h0 : l ≠ []) (h1 : l.length ≤ 15) (h : l.all digB = true) : wholeV l = .tuple #[.int .i64 (digVal l : Nat), .bool true] := by
  unfold wholeV wholeF
  rw [if_neg (by simp [h0]; omega), if_pos h]
theorem digVal_bd : ∀ (l : List UInt8), l.all digB = true → digVal l < 10 ^ l.length := by
  intro l
  induction l with
  | nil => intro _; decide
  | cons b r ih =>
    intro h
    rw [List.all_cons, Bool.and_eq_true] at h
    have := ih h.2
    have hb := h.1
    simp only [digB, Bool.and_eq_true, decide_eq_true_eq] at hb
    rw [digVal_cons, List.length_cons, Nat.pow_succ]
    have : (b.toNat - 48) * 10 ^ r.length ≤ 9 * 10 ^ r.length := Nat.mul_le_mul_right _ (by omega)
    omega
theorem str_get {s : ByteArray} {k : Nat} (h : k < s.size) : ∃ h' : k < s.data.toList.length, s.data.toList[k] = s[k] := ⟨by simpa using h, rfl⟩
abbrev Tab (w : World) : Prop := Lib.TabIs Tryz.prog w "internal/strconv.uint64pow10" .u64 Lib.pow10Tab
theorem Tab.below {w w' : World} (h : Tab w) (hb : Below w.heap.size w w') : Tab w' := by
  unfold Tab Lib.TabIs World.var? at *
  cases hg : Tryz.prog.globalNamed "internal/strconv.uint64pow10" with
  | none => rw [hg] at h; cases h
  | some g =>
    rw [hg] at h
    simp only [Option.bind_some] at h ⊢
    have hlt : g < w.heap.size := by
      rcases Nat.lt_or_ge g w.heap.size with h' | h'
      · exact h'
      · rw [Array.getElem?_eq_none h'] at h; cases h
    rw [hb.block g hlt]
    exact h
theorem itoa_any (n : Int) (w : World) (h0 : -9223372036854775808 ≤ n) (h1 : n ≤ 9223372036854775807) (htab : Tab w) :
    Calls Tryz.prog 88 #[.int .i64 n] w fun e w' => (∃ t : ByteArray, e = .returned (.string t) ∧ t.data.toList = Lib.itoa n) ∧ Below w.heap.size w w' :=
  (Tryz.strconv_Itoa n h0 h1 w htab).mono fun _ _ ⟨he, _, _, hw⟩ => ⟨⟨_, he, rfl⟩, hw ▸ Lib.below_grow _ w (Nat.le_refl _) _ _⟩
end Go.Proofs.YtcmccjcelchlhaaGreatDoor
