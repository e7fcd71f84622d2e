/- The walks of the tables of signs, wordOf, function, row. · How long the text of an expression is. The plain mathematics. · The walks of row, within, joined. -/
import Derived.Test.YtobanldeicclmaaGreatDoorP4
import Derived.Test.YtobanldeicclmaaGreatDoorP8
import Derived.Test.YtobanldeicclmaaGreatDoorP3
import Derived.Deep.DrawnRows
import Derived.Test.YtobanldeicclmaaGreatDoorP6
import Derived.Lib.ItoaLen
namespace Go.Proofs.YtobanldeicclmaaGreatDoor
open Go.RowKit
attribute [local go_sem ↓] Go.wp_at_zero Go.wp_at_succ
/-- a sign in memory -/
def SignAt (_w : World) (_B : Nat) (d : ByteArray × Int) (cs : List Value) : Prop := cs = [.string d.1, .int .i64 d.2]
def flatS (l : List (ByteArray × Int)) : List Value := l.flatMap (fun d => [.string d.1, .int .i64 d.2])
theorem flatS_len : ∀ l : List (ByteArray × Int), (flatS l).length = l.length * 2
  | [] => rfl
  | d :: r => by
    have := flatS_len r
    unfold flatS at *
    rw [List.flatMap_cons, List.length_append, this]
    simp [Nat.succ_mul, Nat.add_comm]
theorem flatS_part : ∀ (l : List (ByteArray × Int)) (i : Nat) (h : i < l.length), ((flatS l).drop (i * 2)).take 2 = [.string l[i].1, .int .i64 l[i].2]
  | d :: r, 0, _ => by simp [flatS]
  | d :: r, i + 1, h => by
    have := flatS_part r i (by simpa using h)
    unfold flatS at *
    rw [List.flatMap_cons, show (i + 1) * 2 = 2 + i * 2 by omega, ← List.drop_drop]
    simpa using this
theorem signs_at {w : World} {g B : Nat} {t : TypeId} {l : List (ByteArray × Int)} (h : Blk w g t (flatS l).toArray) (hB : g < B) (hl : l.length ≤ maxLen) : LiesAt SignAt 2 w B (some ⟨g, 0, none⟩) l := by
  refine ⟨hl, flatS l, ⟨flatS_len l, fun _ => ⟨_, rfl, hB, fun j u hu => ?_⟩⟩, fun i hi => flatS_part l i hi⟩
  have e : (⟨g, 0, none⟩ : Addr).add j = ⟨g, j, none⟩ := by unfold Addr.add; split <;> simp_all
  rw [e, h.cell j]
  simpa using hu
def compL : List (ByteArray × Int) := [(⟨#[61]⟩, 4), (⟨#[60, 62]⟩, 5), (⟨#[60]⟩, 6), (⟨#[60, 61]⟩, 7), (⟨#[62]⟩, 8), (⟨#[62, 61]⟩, 9), (⟨#[105, 110]⟩, 10), (⟨#[104, 97, 115]⟩, 11)]
set_option maxHeartbeats 1000000 in
set_option maxRecDepth 100000 in
theorem comp_any (w : World) : Calls Tryz.prog 75 #[] w fun e w' => ∃ ad, e = .returned (.slice (some ad) 8 8) ∧ LiesAt SignAt 2 w' w'.heap.size (some ad) compL ∧ Below w.heap.size w w' := by
  go_enter Tryz.func75, Tryz.ntmps75
  go_wp2_with fail
  go_ret
  have e : (flatS compL).toArray = #[.string ⟨#[61]⟩, .int .i64 4, .string ⟨#[60, 62]⟩, .int .i64 5, .string ⟨#[60]⟩, .int .i64 6, .string ⟨#[60, 61]⟩, .int .i64 7, .string ⟨#[62]⟩, .int .i64 8, .string ⟨#[62, 61]⟩, .int .i64 9, .string ⟨#[105, 110]⟩, .int .i64 10, .string ⟨#[104, 97, 115]⟩, .int .i64 11] := by kernel_rfl
  exact ⟨_, rfl, signs_at (t := 83) (by rw [e]; exact Blk.new w 83 #[.string ⟨#[61]⟩, .int .i64 4, .string ⟨#[60, 62]⟩, .int .i64 5, .string ⟨#[60]⟩, .int .i64 6, .string ⟨#[60, 61]⟩, .int .i64 7, .string ⟨#[62]⟩, .int .i64 8, .string ⟨#[62, 61]⟩, .int .i64 9, .string ⟨#[105, 110]⟩, .int .i64 10, .string ⟨#[104, 97, 115]⟩, .int .i64 11]) (by simp) (by decide), (Below.refl _ w).alloc (Nat.le_refl _) _⟩
def sumsL : List (ByteArray × Int) := [(⟨#[43]⟩, 15), (⟨#[45]⟩, 16)]
set_option maxHeartbeats 1000000 in
set_option maxRecDepth 100000 in
theorem sums_any (w : World) : Calls Tryz.prog 76 #[] w fun e w' => ∃ ad, e = .returned (.slice (some ad) 2 2) ∧ LiesAt SignAt 2 w' w'.heap.size (some ad) sumsL ∧ Below w.heap.size w w' := by
  go_enter Tryz.func76, Tryz.ntmps76
  go_wp2_with fail
  go_ret
  have e : (flatS sumsL).toArray = #[.string ⟨#[43]⟩, .int .i64 15, .string ⟨#[45]⟩, .int .i64 16] := by kernel_rfl
  exact ⟨_, rfl, signs_at (t := 83) (by rw [e]; exact Blk.new w 83 #[.string ⟨#[43]⟩, .int .i64 15, .string ⟨#[45]⟩, .int .i64 16]) (by simp) (by decide), (Below.refl _ w).alloc (Nat.le_refl _) _⟩
def prodL : List (ByteArray × Int) := [(⟨#[42]⟩, 17), (⟨#[47]⟩, 18), (⟨#[109, 111, 100]⟩, 19)]
set_option maxHeartbeats 1000000 in
set_option maxRecDepth 100000 in
theorem prod_any (w : World) : Calls Tryz.prog 77 #[] w fun e w' => ∃ ad, e = .returned (.slice (some ad) 3 3) ∧ LiesAt SignAt 2 w' w'.heap.size (some ad) prodL ∧ Below w.heap.size w w' := by
  go_enter Tryz.func77, Tryz.ntmps77
  go_wp2_with fail
  go_ret
  have e : (flatS prodL).toArray = #[.string ⟨#[42]⟩, .int .i64 17, .string ⟨#[47]⟩, .int .i64 18, .string ⟨#[109, 111, 100]⟩, .int .i64 19] := by kernel_rfl
  exact ⟨_, rfl, signs_at (t := 83) (by rw [e]; exact Blk.new w 83 #[.string ⟨#[42]⟩, .int .i64 17, .string ⟨#[47]⟩, .int .i64 18, .string ⟨#[109, 111, 100]⟩, .int .i64 19]) (by simp) (by decide), (Below.refl _ w).alloc (Nat.le_refl _) _⟩
def funsL : List (ByteArray × Int) := [(⟨#[97, 110, 115, 119, 101, 114, 101, 100]⟩, 12), (⟨#[97, 115, 107, 101, 100]⟩, 13), (⟨#[114, 101, 97, 115, 111, 110]⟩, 14), (⟨#[97, 98, 115]⟩, 21), (⟨#[102, 108, 111, 111, 114]⟩, 22), (⟨#[114, 111, 117, 110, 100]⟩, 23), (⟨#[109, 105, 110]⟩, 24), (⟨#[109, 97, 120]⟩, 25), (⟨#[105, 102]⟩, 26), (⟨#[101, 108, 115, 101]⟩, 27), (⟨#[115, 105, 122, 101]⟩, 28), (⟨#[99, 111, 100, 101]⟩, 29), (⟨#[108, 111, 119, 101, 114]⟩, 30), (⟨#[106, 111, 105, 110]⟩, 31), (⟨#[98, 101, 103, 105, 110, 115]⟩, 32), (⟨#[104, 111, 108, 100, 115]⟩, 33), (⟨#[121, 101, 97, 114]⟩, 34), (⟨#[109, 111, 110, 116, 104]⟩, 35), (⟨#[100, 97, 121]⟩, 36), (⟨#[100, 97, 121, 115]⟩, 37), (⟨#[97, 103, 101]⟩, 38), (⟨#[108, 97, 116, 101, 114]⟩, 39)]
set_option maxHeartbeats 1000000 in
set_option maxRecDepth 100000 in
theorem funs_any (w : World) : Calls Tryz.prog 51 #[] w fun e w' => ∃ ad, e = .returned (.slice (some ad) 22 22) ∧ LiesAt SignAt 2 w' w'.heap.size (some ad) funsL ∧ Below w.heap.size w w' := by
  go_enter Tryz.func51, Tryz.ntmps51
  go_wp2_with fail
  go_ret
  have e : (flatS funsL).toArray = #[.string ⟨#[97, 110, 115, 119, 101, 114, 101, 100]⟩, .int .i64 12, .string ⟨#[97, 115, 107, 101, 100]⟩, .int .i64 13, .string ⟨#[114, 101, 97, 115, 111, 110]⟩, .int .i64 14, .string ⟨#[97, 98, 115]⟩, .int .i64 21, .string ⟨#[102, 108, 111, 111, 114]⟩, .int .i64 22, .string ⟨#[114, 111, 117, 110, 100]⟩, .int .i64 23, .string ⟨#[109, 105, 110]⟩, .int .i64 24, .string ⟨#[109, 97, 120]⟩, .int .i64 25, .string ⟨#[105, 102]⟩, .int .i64 26, .string ⟨#[101, 108, 115, 101]⟩, .int .i64 27, .string ⟨#[115, 105, 122, 101]⟩, .int .i64 28, .string ⟨#[99, 111, 100, 101]⟩, .int .i64 29, .string ⟨#[108, 111, 119, 101, 114]⟩, .int .i64 30, .string ⟨#[106, 111, 105, 110]⟩, .int .i64 31, .string ⟨#[98, 101, 103, 105, 110, 115]⟩, .int .i64 32, .string ⟨#[104, 111, 108, 100, 115]⟩, .int .i64 33, .string ⟨#[121, 101, 97, 114]⟩, .int .i64 34, .string ⟨#[109, 111, 110, 116, 104]⟩, .int .i64 35, .string ⟨#[100, 97, 121]⟩, .int .i64 36, .string ⟨#[100, 97, 121, 115]⟩, .int .i64 37, .string ⟨#[97, 103, 101]⟩, .int .i64 38, .string ⟨#[108, 97, 116, 101, 114]⟩, .int .i64 39] := by kernel_rfl
  exact ⟨_, rfl, signs_at (t := 83) (by rw [e]; exact Blk.new w 83 #[.string ⟨#[97, 110, 115, 119, 101, 114, 101, 100]⟩, .int .i64 12, .string ⟨#[97, 115, 107, 101, 100]⟩, .int .i64 13, .string ⟨#[114, 101, 97, 115, 111, 110]⟩, .int .i64 14, .string ⟨#[97, 98, 115]⟩, .int .i64 21, .string ⟨#[102, 108, 111, 111, 114]⟩, .int .i64 22, .string ⟨#[114, 111, 117, 110, 100]⟩, .int .i64 23, .string ⟨#[109, 105, 110]⟩, .int .i64 24, .string ⟨#[109, 97, 120]⟩, .int .i64 25, .string ⟨#[105, 102]⟩, .int .i64 26, .string ⟨#[101, 108, 115, 101]⟩, .int .i64 27, .string ⟨#[115, 105, 122, 101]⟩, .int .i64 28, .string ⟨#[99, 111, 100, 101]⟩, .int .i64 29, .string ⟨#[108, 111, 119, 101, 114]⟩, .int .i64 30, .string ⟨#[106, 111, 105, 110]⟩, .int .i64 31, .string ⟨#[98, 101, 103, 105, 110, 115]⟩, .int .i64 32, .string ⟨#[104, 111, 108, 100, 115]⟩, .int .i64 33, .string ⟨#[121, 101, 97, 114]⟩, .int .i64 34, .string ⟨#[109, 111, 110, 116, 104]⟩, .int .i64 35, .string ⟨#[100, 97, 121]⟩, .int .i64 36, .string ⟨#[100, 97, 121, 115]⟩, .int .i64 37, .string ⟨#[97, 103, 101]⟩, .int .i64 38, .string ⟨#[108, 97, 116, 101, 114]⟩, .int .i64 39]) (by simp) (by decide), (Below.refl _ w).alloc (Nat.le_refl _) _⟩
theorem signs_keep {w w' : World} {B : Nat} {A : Option Addr} {l : List (ByteArray × Int)} (h : LiesAt SignAt 2 w B A l) (hb : Below B w w') : LiesAt SignAt 2 w' B A l := LiesAt.keep (w := w) (w' := w') (fun _ _ h => h) h hb
/-- the text of bytes -/
def tx (l : List UInt8) : ByteArray := ⟨l.toArray⟩
theorem sign_word : (∀ d ∈ compL, d.1 = tx (infixT d.2)) ∧ (∀ d ∈ sumsL, d.1 = tx (infixT d.2)) ∧ (∀ d ∈ prodL, d.1 = tx (infixT d.2)) := by
  refine ⟨?_, ?_, ?_⟩ <;> · intro d hd; simp only [compL, sumsL, prodL, List.mem_cons, List.not_mem_nil, or_false] at hd; rcases hd with rfl | hd <;> first | rfl | (repeat' (first | (rcases hd with rfl | hd) | subst hd)) <;> rfl
theorem funs_word : ∀ d ∈ funsL, d.1 = tx (funcT d.2) := by
  intro d hd
  have h : (funsL.all fun d => decide (d.1.data.toList = funcT d.2)) = true := by decide
  have h2 := List.all_eq_true.1 h d hd
  rw [decide_eq_true_iff] at h2
  unfold tx
  rw [← h2]
theorem funs_none {op : Int} (h : ∀ d ∈ funsL, d.2 ≠ op) : funcT op = [] := by
  have hm : ∀ p ∈ funcsL, p.1 ≠ op := by
    intro p hp
    have h1 : (funcsL.all fun p => funsL.any fun d => decide (d.2 = p.1)) = true := by decide
    have h2 := List.all_eq_true.1 h1 p hp
    obtain ⟨d, hd, h3⟩ := List.any_eq_true.1 h2
    rw [decide_eq_true_iff] at h3
    rw [← h3]; exact h d hd
  unfold funcT
  rw [List.find?_eq_none.2 (fun p hp => by simpa using hm p hp)]
theorem sign_none {op : Int} (h1 : ∀ d ∈ compL, d.2 ≠ op) (h2 : ∀ d ∈ sumsL, d.2 ≠ op) (h3 : ∀ d ∈ prodL, d.2 ≠ op) : infixT op = [] := by
  simp only [compL, sumsL, prodL, List.forall_mem_cons] at h1 h2 h3
  unfold infixT
  rw [if_neg (by omega), if_neg (by omega), if_neg (by omega), if_neg (by omega), if_neg (by omega), if_neg (by omega), if_neg (by omega), if_neg (by omega), if_neg (by omega), if_neg (by omega), if_neg (by omega), if_neg (by omega), if_neg (by omega)]
set_option maxHeartbeats 2000000 in
set_option maxRecDepth 100000 in
theorem function_any (op : Int) (w : World) : Calls Tryz.prog 28 #[.int .i64 op] w fun e w' => e = .returned (.string (tx (funcT op))) ∧ Below w.heap.size w w' := by
  go_enter Tryz.func28, Tryz.ntmps28
  go_wp2_with fail
  refine (funs_any w).mono ?_
  rintro en W ⟨ad0, rfl, hL, hbw⟩
  have HL := Lib.hid hL
  have hstart : Below W.heap.size W W := Below.refl _ _
  clear hL
  go_wp2_with fail
  go_loopw [7, 4] (fun i _ wz => ∃ k : Nat, k ≤ 22 ∧ i = .int .i64 k ∧ Hid (∀ d ∈ funsL.take k, d.2 ≠ op) ∧ Below W.heap.size W wz) (fun i _ _ => 22 - (intOf i).toNat)
  case atStart => exact ⟨0, Nat.zero_le _, rfl, Lib.hid (fun d h => by simp at h), hstart⟩
  case round =>
    obtain ⟨k, hk, rfl, HNO, hbr⟩ := hrel
    have hsr := hbr.size
    by_cases hlt : k < 22
    · have hlt' : k < funsL.length := hlt
      obtain ⟨ad, ci, had, hb, hci, hcell⟩ := (signs_keep HL.out hbr).at_ hlt'
      injection had with had
      subst had
      obtain ⟨d, hed⟩ : ∃ d, funsL[k] = d := ⟨_, rfl⟩
      have hdm : d ∈ funsL := by rw [← hed]; exact List.getElem_mem hlt'
      have HST := Lib.hid (show funsL.take (k + 1) = funsL.take k ++ [d] by rw [List.take_succ_eq_append_getElem hlt', hed])
      rw [hed] at hci
      have HDM := Lib.hid hdm
      have HLT := Lib.hid hlt
      obtain ⟨dw, dop⟩ := d
      have hci2 : ci = [.string dw, .int .i64 dop] := hci
      subst hci2
      have fc0 : wr.cell? (ad0.add (k * 2)) = some (.string dw) := hcell 0 _ rfl
      have fc1 : wr.cell? ⟨(ad0.add (k * 2)).block, (ad0.add (k * 2)).off + 1, none⟩ = some (.int .i64 dop) := hcell 1 _ rfl
      have hk0 : (0 : Int) ≤ (k : Nat) := by omega
      have hk1 : (k : Int) < 22 := by omega
      clear hci hcell hed hdm hb hlt'
      by_cases ho : dop = op
      · subst ho
        have bo : (dop == dop) = true := by simp
        have HR := Lib.hid (show tx (funcT dop) = dw from (funs_word _ HDM.out).symm)
        go_wp2_with fail
        go_ret
        exact ⟨by rw [HR.out]; try rfl, hbw.trans ((hbr.alloc hsr _).mono hbw.size)⟩
      · have bo : (dop == op) = false := by simp [ho]
        have HNO2 := Lib.hid (show ∀ d ∈ funsL.take (k + 1), d.2 ≠ op by
          rw [HST.out]
          intro x hx
          rcases List.mem_append.1 hx with h | h
          · exact HNO.out x h
          · rw [List.mem_singleton] at h; rw [h]; exact ho)
        clear ho
        go_wp2_with fail
        go_roundw
        case rel => exact ⟨k + 1, HLT.out, by go_num, HNO2, hbr.alloc hsr _⟩
        case measure =>
          have := HLT.out
          simp [intOf]
          omega
    · have HALL := Lib.hid (show ∀ d ∈ funsL, d.2 ≠ op by have h := HNO.out; rwa [List.take_of_length_le (show funsL.length ≤ k by show 22 ≤ k; omega)] at h)
      clear HNO
      have HR := Lib.hid (show tx (funcT op) = ⟨#[]⟩ by rw [funs_none HALL.out]; rfl)
      go_wp2_with fail
      go_ret
      exact ⟨by rw [HR.out]; try rfl, hbw.trans (hbr.mono hbw.size)⟩
theorem LiesAt_up {w : World} {B B' : Nat} {A : Option Addr} {l : List (ByteArray × Int)} (h : LiesAt SignAt 2 w B A l) (hb : B ≤ B') : LiesAt SignAt 2 w B' A l := by
  obtain ⟨h0, cs, hr, hp⟩ := h
  exact ⟨h0, cs, hr.more hb, hp⟩
set_option maxHeartbeats 4000000 in
set_option maxRecDepth 100000 in
theorem wordOf_any (op : Int) (w : World) : Calls Tryz.prog 50 #[.int .i64 op] w fun e w' => e = .returned (.string (tx (infixT op))) ∧ Below w.heap.size w w' := by
  go_enter Tryz.func50, Tryz.ntmps50
  go_wp2_with fail
  refine (comp_any w).mono ?_
  rintro en W1 ⟨a0, rfl, hL0, hb1⟩
  go_wp2_with fail
  refine (sums_any W1).mono ?_
  rintro en W2 ⟨a1, rfl, hL1, hb2⟩
  go_wp2_with fail
  refine (prod_any W2).mono ?_
  rintro en W3 ⟨a2, rfl, hL2, hb3⟩
  have hbw3 := (hb1.trans (hb2.mono hb1.size)).trans (hb3.mono (Nat.le_trans hb1.size hb2.size))
  have HT3 := Lib.hid (show LiesAt SignAt 2 W3 W3.heap.size (some a0) compL ∧ LiesAt SignAt 2 W3 W3.heap.size (some a1) sumsL ∧ LiesAt SignAt 2 W3 W3.heap.size (some a2) prodL from
    ⟨LiesAt_up (signs_keep (signs_keep hL0 hb2) (hb3.mono hb2.size)) (Nat.le_trans hb2.size hb3.size), LiesAt_up (signs_keep hL1 hb3) hb3.size, hL2⟩)
  clear hL0 hL1 hL2 hb1 hb2 hb3
  go_upto_region 2 with (fail)
  obtain ⟨Wo, hWo⟩ : ∃ Wo, Wo = W3.alloc (.cells #[.slice (some a0) 8 8, .slice (some a1) 2 2, .slice (some a2) 3 3] 80 (0, 0)) := ⟨_, rfl⟩
  have hbo3 : Below W3.heap.size W3 Wo := hWo ▸ (Below.refl _ W3).alloc (Nat.le_refl _) _
  have BO : Blk Wo W3.heap.size 80 #[.slice (some a0) 8 8, .slice (some a1) 2 2, .slice (some a2) 3 3] := hWo ▸ Blk.new W3 _ _
  rw [← hWo]
  have hbw := hbw3.trans (hbo3.mono hbw3.size)
  have HT := Lib.hid (show LiesAt SignAt 2 Wo Wo.heap.size (some a0) compL ∧ LiesAt SignAt 2 Wo Wo.heap.size (some a1) sumsL ∧ LiesAt SignAt 2 Wo Wo.heap.size (some a2) prodL from
    ⟨LiesAt_up (signs_keep HT3.out.1 hbo3) hbo3.size, LiesAt_up (signs_keep HT3.out.2.1 hbo3) hbo3.size, LiesAt_up (signs_keep HT3.out.2.2 hbo3) hbo3.size⟩)
  have HBO := Lib.hid BO
  clear hWo hbo3 BO HT3 hbw3
  go_loopw [12, 4, 6, 18] (fun i _ _ _ wo => ∃ n : Nat, n ≤ 3 ∧ i = .int .i64 n ∧ Hid ((0 < n → ∀ d ∈ compL, d.2 ≠ op) ∧ (1 < n → ∀ d ∈ sumsL, d.2 ≠ op) ∧ (2 < n → ∀ d ∈ prodL, d.2 ≠ op)) ∧ Below Wo.heap.size Wo wo) (fun i _ _ _ _ => 3 - (intOf i).toNat)
  case atStart => exact ⟨0, by omega, rfl, Lib.hid ⟨fun h => by omega, fun h => by omega, fun h => by omega⟩, Below.refl _ _⟩
  case round =>
    obtain ⟨n, hn, rfl, HPR, hbo⟩ := hrel
    have BO := HBO.out.below hbo HBO.out.lt
    have oc0 : wr.cell? ⟨W3.heap.size, 0, none⟩ = some (.slice (some a0) 8 8) := BO.cell 0
    have oc1 : wr.cell? ⟨W3.heap.size, 1, none⟩ = some (.slice (some a1) 2 2) := BO.cell 1
    have oc2 : wr.cell? ⟨W3.heap.size, 2, none⟩ = some (.slice (some a2) 3 3) := BO.cell 2
    clear BO
    obtain rfl | rfl | rfl | rfl : n = 0 ∨ n = 1 ∨ n = 2 ∨ n = 3 := by omega
    · skip
      have HLL := Lib.hid (signs_keep HT.out.1 hbo)
      have hstart : Below wr.heap.size wr wr := Below.refl _ _
      have HLX := Lib.hid (LiesAt_up HLL.out hbo.size)
      go_wp2_with fail
      go_loopw [18, 6] (fun i _ wz => ∃ k : Nat, k ≤ 8 ∧ i = .int .i64 k ∧ Hid (∀ d ∈ compL.take k, d.2 ≠ op) ∧ Below wr.heap.size wr wz) (fun i _ _ => 8 - (intOf i).toNat)
      case atStart => exact ⟨0, Nat.zero_le _, rfl, Lib.hid (fun d h => by simp at h), hstart⟩
      case round =>
        obtain ⟨k, hk, rfl, HNO, hbr⟩ := hrel
        have hsr := hbr.size
        by_cases hlt : k < 8
        · have hlt' : k < compL.length := hlt
          obtain ⟨ad, ci, had, hb, hci, hcell⟩ := (signs_keep HLX.out hbr).at_ hlt'
          injection had with had
          subst had
          obtain ⟨d, hed⟩ : ∃ d, compL[k] = d := ⟨_, rfl⟩
          have hdm : d ∈ compL := by rw [← hed]; exact List.getElem_mem hlt'
          have HST := Lib.hid (show compL.take (k + 1) = compL.take k ++ [d] by rw [List.take_succ_eq_append_getElem hlt', hed])
          rw [hed] at hci
          have HDM := Lib.hid hdm
          have HLT := Lib.hid hlt
          obtain ⟨dw, dop⟩ := d
          have hci2 : ci = [.string dw, .int .i64 dop] := hci
          subst hci2
          have fc0 : wr.cell? (a0.add (k * 2)) = some (.string dw) := hcell 0 _ rfl
          have fc1 : wr.cell? ⟨(a0.add (k * 2)).block, (a0.add (k * 2)).off + 1, none⟩ = some (.int .i64 dop) := hcell 1 _ rfl
          have hk0 : (0 : Int) ≤ (k : Nat) := by omega
          have hk1 : (k : Int) < 8 := by omega
          clear hci hcell hed hdm hb hlt'
          by_cases ho : dop = op
          · subst ho
            have bo : (dop == dop) = true := by simp
            have HR := Lib.hid (show tx (infixT dop) = dw from (sign_word.1 _ HDM.out).symm)
            go_wp2_with fail
            go_ret
            exact ⟨by rw [HR.out]; try rfl, hbw.trans ((hbo.trans ((hbr.alloc hsr _).mono hbo.size)).mono hbw.size)⟩
          · have bo : (dop == op) = false := by simp [ho]
            have HNO2 := Lib.hid (show ∀ d ∈ compL.take (k + 1), d.2 ≠ op by
              rw [HST.out]
              intro x hx
              rcases List.mem_append.1 hx with h | h
              · exact HNO.out x h
              · rw [List.mem_singleton] at h; rw [h]; exact ho)
            clear ho
            go_wp2_with fail
            go_roundw
            case rel => exact ⟨k + 1, HLT.out, by go_num, HNO2, hbr.alloc hsr _⟩
            case measure =>
              have := HLT.out
              simp [intOf]
              omega
        · have HALL := Lib.hid (show ∀ d ∈ compL, d.2 ≠ op by have h := HNO.out; rwa [List.take_of_length_le (show compL.length ≤ k by show 8 ≤ k; omega)] at h)
          clear HNO
          have HALL0 := HALL
          go_wp2_with fail
          go_roundw
          case rel => exact ⟨0 + 1, by omega, by rfl, Lib.hid ⟨fun _ => HALL0.out, fun h => HPR.out.2.1 (by omega), fun h => HPR.out.2.2 (by omega)⟩, (hbo.trans (hbr.mono hbo.size))⟩
          case measure => simp [intOf]
    · skip
      have HLL := Lib.hid (signs_keep HT.out.2.1 hbo)
      have hstart : Below wr.heap.size wr wr := Below.refl _ _
      have HLX := Lib.hid (LiesAt_up HLL.out hbo.size)
      go_wp2_with fail
      go_loopw [18, 6] (fun i _ wz => ∃ k : Nat, k ≤ 2 ∧ i = .int .i64 k ∧ Hid (∀ d ∈ sumsL.take k, d.2 ≠ op) ∧ Below wr.heap.size wr wz) (fun i _ _ => 2 - (intOf i).toNat)
      case atStart => exact ⟨0, Nat.zero_le _, rfl, Lib.hid (fun d h => by simp at h), hstart⟩
      case round =>
        obtain ⟨k, hk, rfl, HNO, hbr⟩ := hrel
        have hsr := hbr.size
        by_cases hlt : k < 2
        · have hlt' : k < sumsL.length := hlt
          obtain ⟨ad, ci, had, hb, hci, hcell⟩ := (signs_keep HLX.out hbr).at_ hlt'
          injection had with had
          subst had
          obtain ⟨d, hed⟩ : ∃ d, sumsL[k] = d := ⟨_, rfl⟩
          have hdm : d ∈ sumsL := by rw [← hed]; exact List.getElem_mem hlt'
          have HST := Lib.hid (show sumsL.take (k + 1) = sumsL.take k ++ [d] by rw [List.take_succ_eq_append_getElem hlt', hed])
          rw [hed] at hci
          have HDM := Lib.hid hdm
          have HLT := Lib.hid hlt
          obtain ⟨dw, dop⟩ := d
          have hci2 : ci = [.string dw, .int .i64 dop] := hci
          subst hci2
          have fc0 : wr.cell? (a1.add (k * 2)) = some (.string dw) := hcell 0 _ rfl
          have fc1 : wr.cell? ⟨(a1.add (k * 2)).block, (a1.add (k * 2)).off + 1, none⟩ = some (.int .i64 dop) := hcell 1 _ rfl
          have hk0 : (0 : Int) ≤ (k : Nat) := by omega
          have hk1 : (k : Int) < 2 := by omega
          clear hci hcell hed hdm hb hlt'
          by_cases ho : dop = op
          · subst ho
            have bo : (dop == dop) = true := by simp
            have HR := Lib.hid (show tx (infixT dop) = dw from (sign_word.2.1 _ HDM.out).symm)
            go_wp2_with fail
            go_ret
            exact ⟨by rw [HR.out]; try rfl, hbw.trans ((hbo.trans ((hbr.alloc hsr _).mono hbo.size)).mono hbw.size)⟩
          · have bo : (dop == op) = false := by simp [ho]
            have HNO2 := Lib.hid (show ∀ d ∈ sumsL.take (k + 1), d.2 ≠ op by
              rw [HST.out]
              intro x hx
              rcases List.mem_append.1 hx with h | h
              · exact HNO.out x h
              · rw [List.mem_singleton] at h; rw [h]; exact ho)
            clear ho
            go_wp2_with fail
            go_roundw
            case rel => exact ⟨k + 1, HLT.out, by go_num, HNO2, hbr.alloc hsr _⟩
            case measure =>
              have := HLT.out
              simp [intOf]
              omega
        · have HALL := Lib.hid (show ∀ d ∈ sumsL, d.2 ≠ op by have h := HNO.out; rwa [List.take_of_length_le (show sumsL.length ≤ k by show 2 ≤ k; omega)] at h)
          clear HNO
          have HALL1 := HALL
          go_wp2_with fail
          go_roundw
          case rel => exact ⟨1 + 1, by omega, by rfl, Lib.hid ⟨fun h => HPR.out.1 (by omega), fun _ => HALL1.out, fun h => HPR.out.2.2 (by omega)⟩, (hbo.trans (hbr.mono hbo.size))⟩
          case measure => simp [intOf]
    · skip
      have HLL := Lib.hid (signs_keep HT.out.2.2 hbo)
      have hstart : Below wr.heap.size wr wr := Below.refl _ _
      have HLX := Lib.hid (LiesAt_up HLL.out hbo.size)
      go_wp2_with fail
      go_loopw [18, 6] (fun i _ wz => ∃ k : Nat, k ≤ 3 ∧ i = .int .i64 k ∧ Hid (∀ d ∈ prodL.take k, d.2 ≠ op) ∧ Below wr.heap.size wr wz) (fun i _ _ => 3 - (intOf i).toNat)
      case atStart => exact ⟨0, Nat.zero_le _, rfl, Lib.hid (fun d h => by simp at h), hstart⟩
      case round =>
        obtain ⟨k, hk, rfl, HNO, hbr⟩ := hrel
        have hsr := hbr.size
        by_cases hlt : k < 3
        · have hlt' : k < prodL.length := hlt
          obtain ⟨ad, ci, had, hb, hci, hcell⟩ := (signs_keep HLX.out hbr).at_ hlt'
          injection had with had
          subst had
          obtain ⟨d, hed⟩ : ∃ d, prodL[k] = d := ⟨_, rfl⟩
          have hdm : d ∈ prodL := by rw [← hed]; exact List.getElem_mem hlt'
          have HST := Lib.hid (show prodL.take (k + 1) = prodL.take k ++ [d] by rw [List.take_succ_eq_append_getElem hlt', hed])
          rw [hed] at hci
          have HDM := Lib.hid hdm
          have HLT := Lib.hid hlt
          obtain ⟨dw, dop⟩ := d
          have hci2 : ci = [.string dw, .int .i64 dop] := hci
          subst hci2
          have fc0 : wr.cell? (a2.add (k * 2)) = some (.string dw) := hcell 0 _ rfl
          have fc1 : wr.cell? ⟨(a2.add (k * 2)).block, (a2.add (k * 2)).off + 1, none⟩ = some (.int .i64 dop) := hcell 1 _ rfl
          have hk0 : (0 : Int) ≤ (k : Nat) := by omega
          have hk1 : (k : Int) < 3 := by omega
          clear hci hcell hed hdm hb hlt'
          by_cases ho : dop = op
          · subst ho
            have bo : (dop == dop) = true := by simp
            have HR := Lib.hid (show tx (infixT dop) = dw from (sign_word.2.2 _ HDM.out).symm)
            go_wp2_with fail
            go_ret
            exact ⟨by rw [HR.out]; try rfl, hbw.trans ((hbo.trans ((hbr.alloc hsr _).mono hbo.size)).mono hbw.size)⟩
          · have bo : (dop == op) = false := by simp [ho]
            have HNO2 := Lib.hid (show ∀ d ∈ prodL.take (k + 1), d.2 ≠ op by
              rw [HST.out]
              intro x hx
              rcases List.mem_append.1 hx with h | h
              · exact HNO.out x h
              · rw [List.mem_singleton] at h; rw [h]; exact ho)
            clear ho
            go_wp2_with fail
            go_roundw
            case rel => exact ⟨k + 1, HLT.out, by go_num, HNO2, hbr.alloc hsr _⟩
            case measure =>
              have := HLT.out
              simp [intOf]
              omega
        · have HALL := Lib.hid (show ∀ d ∈ prodL, d.2 ≠ op by have h := HNO.out; rwa [List.take_of_length_le (show prodL.length ≤ k by show 3 ≤ k; omega)] at h)
          clear HNO
          have HALL2 := HALL
          go_wp2_with fail
          go_roundw
          case rel => exact ⟨2 + 1, by omega, by rfl, Lib.hid ⟨fun h => HPR.out.1 (by omega), fun h => HPR.out.2.1 (by omega), fun _ => HALL2.out⟩, (hbo.trans (hbr.mono hbo.size))⟩
          case measure => simp [intOf]
    · have HR := Lib.hid (show tx (infixT op) = ⟨#[]⟩ by rw [sign_none (HPR.out.1 (by omega)) (HPR.out.2.1 (by omega)) (HPR.out.2.2 (by omega))]; rfl)
      go_wp2_with fail
      go_ret
      exact ⟨by rw [HR.out]; try rfl, hbw.trans (hbo.mono hbw.size)⟩
end Go.Proofs.YtobanldeicclmaaGreatDoor
namespace Go.Proofs.YtobanldeicclmaaGreatDoor
open Vtx
theorem itoa_le {n : Int} (h1 : -9223372036854775808 ≤ n) (h2 : n ≤ 9223372036854775807) : (Lib.itoa n).length ≤ 21 := Lib.itoa_length_le n h1 h2
theorem padT_le (w : Nat) {n : Int} (h1 : -9223372036854775808 ≤ n) (h2 : n ≤ 9223372036854775807) : (padT w n).length ≤ w + 21 := by
  unfold padT
  have := itoa_le h1 h2
  rw [List.length_append]
  simp only [Dig.zeros, List.length_replicate]
  omega
theorem trim_le (l : List UInt8) (c : UInt8) : (Lib.trimRightB l c).length ≤ l.length := by
  unfold Lib.trimRightB
  rw [List.length_reverse]
  have := (List.dropWhile_suffix (p := (· == c)) (l := l.reverse)).length_le
  rwa [List.length_reverse] at this
theorem numT_le {n : Int} (h1 : -999999999999999 ≤ n) (h2 : n ≤ 999999999999999) : (numT n).length ≤ 100 := by
  have ha : 0 ≤ absI n ∧ absI n ≤ 999999999999999 := by unfold absI; split <;> omega
  have e1 := itoa_le (n := absI n / 10000) (by omega) (by omega)
  have e2 : (fracT (absI n % 10000)).length ≤ 25 := Nat.le_trans (trim_le _ _) (padT_le 4 (by omega) (by omega))
  unfold numT
  rw [List.length_append, List.length_append]
  have e3 : (if n < 0 then ([45] : List UInt8) else []).length ≤ 1 := by split <;> simp
  have e4 : (if fracT (absI n % 10000) = [] then [] else 46 :: fracT (absI n % 10000)).length ≤ 26 := by
    split
    · simp
    · rw [List.length_cons]; omega
  omega
theorem show_le {v : Val} (h : checkV v = 0) : (showT v.k v.n v.s.data.toList v.l).length ≤ 500 := by
  obtain ⟨hq, hl, hs⟩ := snd_of h
  have hs' : v.s.data.toList.length ≤ 200 := by simpa using hs
  generalize v.s.data.toList = S at hq hs'
  generalize v.k = k at hq
  generalize v.n = n at hq
  generalize v.l = l at hq hl
  cases hq with
  | none_ => decide
  | word h1 h2 =>
    show (wordT n).length ≤ 500
    unfold wordT
    split
    · decide
    split <;> decide
  | num h1 h2 => exact Nat.le_trans (numT_le h1 h2) (by decide)
  | text s =>
    show (textT S).length ≤ 500
    unfold textT
    have := esc_len S
    rw [List.length_append, List.length_cons, List.length_singleton]
    omega
  | code h1 h2 =>
    show (codeT n).length ≤ 500
    unfold codeT
    have := itoa_le (n := n) (by omega) (by omega)
    rw [List.length_cons]
    omega
  | set hc =>
    show (setT l).length ≤ 500
    unfold setT
    have := joinT_len l hc
    rw [List.length_append, List.length_cons, List.length_singleton]
    omega
  | day h1 h2 =>
    show (dayT n).length ≤ 500
    have hcs := Cal.civ_spec h1 h2
    obtain ⟨b1, b2⟩ := Cal.range_year h1 h2 hcs.year.1 hcs.year.2
    have hdb := Cal.dim_bd (Cal.cy n) (Cal.cm n)
    have b3 := hcs.m1
    have b4 := hcs.m2
    have b5 := hcs.d1
    have b6 := hcs.d2
    have e1 := padT_le 4 (n := Cal.cy n) (by omega) (by omega)
    have e2 := padT_le 2 (n := Cal.cm n) (by omega) (by omega)
    have e3 := padT_le 2 (n := Cal.cd n) (by omega) (by omega)
    unfold dayT
    simp only [List.length_append, List.length_cons, List.length_nil]
    omega
  | bool h1 =>
    show (if n = 1 then trueT else falseT).length ≤ 500
    split <;> decide
theorem ite_len {p : Prop} [Decidable p] {a b : List UInt8} {k : Nat} (h1 : a.length ≤ k) (h2 : b.length ≤ k) : (if p then a else b).length ≤ k := by split <;> assumption
theorem infix_le (op : Int) : (infixT op).length ≤ 3 := by
  unfold infixT
  iterate 13 refine ite_len (by decide) ?_
  decide
theorem func_le (op : Int) : (funcT op).length ≤ 8 := by
  unfold funcT
  split
  · rename_i p hp
    have : ∀ p ∈ funcsL, p.2.length ≤ 8 := by decide
    exact this p (List.mem_of_find?_eq_some hp)
  · decide
theorem over_le (op : Int) : (overT' op).length ≤ 5 := by
  unfold overT'
  rw [List.getD_eq_getElem?_getD]
  rcases h : oversL[op.toNat]? with _ | l
  · decide
  · have : ∀ p ∈ oversL, p.length ≤ 5 := by decide
    exact this l (List.mem_of_getElem? h)
theorem par_le (b : Bool) (t : List UInt8) : (parT b t).length ≤ t.length + 2 := by
  unfold parT
  split
  · simp
  · omega
theorem ins_le (least : Int) : ∀ {ar : List Ex}, (∀ a ∈ ar, a.text.length + 100 ≤ 1000 * a.parts) → ((insL least ar).map List.length).sum + 98 * ar.length ≤ 1000 * partsL ar ∧ ∀ i, ((insL least ar).getD i []).length ≤ 1000 * partsL ar + 2
  | [], _ => by simp [insL, partsL]
  | a :: r, h => by
    have ih := ins_le least (fun b hb => h b (List.mem_cons_of_mem _ hb)) (ar := r)
    have ha := h a (List.mem_cons_self ..)
    have hp := par_le (decide (rowN a < least)) a.text
    rw [insL, partsL]
    refine ⟨by simp only [List.map_cons, List.sum_cons, List.length_cons]; omega, fun i => ?_⟩
    cases i with
    | zero => simp only [List.getD_cons_zero]; omega
    | succ i =>
      have := ih.2 i
      simp only [List.getD_cons_succ]
      omega
theorem ins_len (least : Int) (ar : List Ex) : (insL least ar).length = ar.length := by rw [insL_map]; simp
theorem name_le {s : ByteArray} (h : isNameF s.data.toList = true) : s.data.toList.length ≤ 16 := by
  unfold isNameF at h
  simp only [Bool.and_eq_true, decide_eq_true_iff] at h
  exact h.1.1.1.2
theorem part_name {e : Ex} (h : partF e = 0) (hk : e.k = 2 ∨ e.k = 3 ∨ e.k = 5) : isNameF e.nm.data.toList = true := by
  unfold partF partB at h
  by_cases c1 : outB e.k 1 5 = true
  · rw [if_pos c1] at h; exact absurd h (by decide)
  rw [if_neg c1, if_neg (by omega)] at h
  by_cases c3 : e.k = 5 ∧ outB e.op 1 6 = true
  · rw [if_pos c3] at h; exact absurd h (by decide)
  rw [if_neg c3] at h
  by_cases c4 : extraB e.k e.op e.nm e.v e.ar.length = true
  · rw [if_pos c4] at h; exact absurd h (by decide)
  rw [if_neg c4, if_neg (by omega), if_neg (by omega)] at h
  by_cases c5 : isNameF e.nm.data.toList = true
  · exact c5
  · rw [if_neg c5] at h; exact absurd h (by decide)
theorem part_const' {e : Ex} (h : partF e = 0) (hk : e.k = 1) : checkV e.v = 0 := by
  unfold partF partB at h
  by_cases c1 : outB e.k 1 5 = true
  · rw [if_pos c1] at h; exact absurd h (by decide)
  rw [if_neg c1, if_neg (by omega), if_neg (by omega)] at h
  by_cases c4 : extraB e.k e.op e.nm e.v e.ar.length = true
  · rw [if_pos c4] at h; exact absurd h (by decide)
  rw [if_neg c4, if_pos hk] at h
  split at h
  · exact absurd h (by decide)
  · exact h
/-- the length of a text -/
theorem text_le (e : Ex) : e.fault = 0 → e.text.length + 100 ≤ 1000 * e.parts := by
  induction e using Ex.ind with
  | h e ih =>
    intro hf
    have hP := fault_part hf
    have P := partOk hP
    have hA := fault_arg hf
    have hI := fun a h => ih a h (hA a h)
    rw [text_eq, parts_eq]
    by_cases k1 : e.k = 1
    · rw [if_pos k1]
      have := show_le (part_const' hP k1)
      omega
    rw [if_neg k1]
    by_cases k2 : e.k = 2
    · rw [if_pos k2]
      have := name_le (part_name hP (.inl k2))
      omega
    rw [if_neg k2]
    by_cases k3 : e.k = 3
    · rw [if_pos k3]
      have := name_le (part_name hP (.inr (.inl k3)))
      simp only [List.length_append, List.length_cons, List.length_nil]
      omega
    rw [if_neg k3]
    have i0 := ins_le 0 hI
    by_cases k5 : e.k = 5
    · rw [if_pos k5]
      have h1 := name_le (part_name hP (.inr (.inr k5)))
      have h2 := over_le e.op
      have h3 := i0.2 0
      simp only [List.length_append, List.length_cons, List.length_nil]
      omega
    rw [if_neg k5]
    have hlen := len_parts e.ar
    split
    · have h1 := (ins_le 2 hI).1
      have h2 := join_len (insL 2 e.ar) [32, 111, 114, 32]
      rw [ins_len] at h2
      simp only [List.length_cons, List.length_nil] at h2
      omega
    split
    · have h1 := (ins_le 3 hI).1
      have h2 := join_len (insL 3 e.ar) [32, 97, 110, 100, 32]
      rw [ins_len] at h2
      simp only [List.length_cons, List.length_nil] at h2
      omega
    have h3 := (ins_le 3 hI).2
    have h5 := (ins_le 5 hI).2
    have h6 := (ins_le 6 hI).2
    have h7 := (ins_le 7 hI).2
    have hin := infix_le e.op
    have two : ∀ (l1 l2 : Int), ((insL l1 e.ar).getD 0 []).length + ((insL l2 e.ar).getD 1 []).length ≤ 1000 * partsL e.ar + 4 := by
      intro l1 l2
      have hz : ∀ (l : Int), ∀ i, ∀ a, e.ar[i]? = some a → ((insL l e.ar).getD i []).length ≤ 1000 * a.parts + 2 := fun l i a hi => by
        rw [insL_map, List.getD_eq_getElem?_getD, List.getElem?_map, hi]
        have := par_le (decide (rowN a < l)) a.text
        have := hI a (List.mem_of_getElem? hi)
        simp only [Option.map_some, Option.getD_some]
        omega
      have hn : ∀ (l : Int), ∀ i, e.ar[i]? = none → ((insL l e.ar).getD i []).length = 0 := fun l i hi => by
        rw [insL_map, List.getD_eq_getElem?_getD, List.getElem?_map, hi]; rfl
      match hr : e.ar with
      | [] => simp [insL]
      | [a] =>
        have e1 := hz l1 0 a (by rw [hr]; rfl)
        have e2 := hn l2 1 (by rw [hr]; rfl)
        rw [hr] at e1 e2
        simp only [partsL]
        omega
      | a :: b :: r =>
        have e1 := hz l1 0 a (by rw [hr]; rfl)
        have e2 := hz l2 1 b (by rw [hr]; rfl)
        rw [hr] at e1 e2
        simp only [partsL]
        omega
    split
    · have := h3 0
      simp only [List.length_append, List.length_cons, List.length_nil]
      omega
    split
    · have := two 5 5
      simp only [List.length_append, List.length_cons, List.length_nil]
      omega
    split
    · have := two 5 6
      simp only [List.length_append, List.length_cons, List.length_nil]
      omega
    split
    · have := two 6 7
      simp only [List.length_append, List.length_cons, List.length_nil]
      omega
    split
    · split
      · have := i0.2 0
        simp only [List.length_append, List.length_cons, List.length_nil]
        omega
      · have := h7 0
        simp only [List.length_append, List.length_cons, List.length_nil]
        omega
    · have h1 := (ins_le 1 hI).1
      have h2 := join_len (insL 1 e.ar) [44, 32]
      have h3 := func_le e.op
      rw [ins_len] at h2
      simp only [List.length_append, List.length_cons, List.length_nil] at *
      omega
end Go.Proofs.YtobanldeicclmaaGreatDoor
namespace Go.Proofs.YtobanldeicclmaaGreatDoor
open Go.RowKit
attribute [local go_sem ↓] Go.wp_at_zero Go.wp_at_succ
theorem tx_cat (a b : List UInt8) : tx a ++ tx b = tx (a ++ b) := by
  unfold tx
  exact ByteArray.ext (by rw [ByteArray.data_append]; simp)
theorem tx_size (l : List UInt8) : (tx l).size = l.length := by unfold tx; simp [ByteArray.size]
theorem tx_data (l : List UInt8) : (tx l).data.toList = l := by unfold tx; simp
theorem exs_at {w : World} {B : Nat} {ar : List Ex} {A' : Option Addr} {cs : List Value} (hr : Reads w B 8 A' ar.length cs) (hi : ∀ i (h : i < ar.length), ExAt w B ar[i] ((cs.drop (i * 8)).take 8)) {i : Nat} (h : i < ar.length) :
    ∃ ad ci, A' = some ad ∧ ad.block < B ∧ ExAt w B ar[i] ci ∧ ∀ j u, ci[j]? = some u → w.cell? ((ad.add (i * 8)).add j) = some u := ExAt.arg (e := .mk 0 0 ⟨#[]⟩ ⟨0, 0, ⟨#[]⟩, []⟩ ar) hr hi h
theorem tx_of {t : ByteArray} {l : List UInt8} (h : t.data.toList = l) : t = tx l := by
  unfold tx
  rw [← h]
set_option maxHeartbeats 2000000 in
theorem row_any (e : Ex) (B : Nat) (cs : List Value) (w : World) (hx : ExAt w B e cs) : Calls Tryz.prog 23 #[.agg cs.toArray] w fun en w' => en = .returned (.int .i64 (rowN e)) ∧ Below w.heap.size w w' := by
  obtain ⟨hn, hs, hl, ha, hx, hr, hi⟩ := hx
  rename_i A1 c1 A2 c2 cs
  clear hx hr hi
  obtain ⟨r, hr⟩ : ∃ r, rowN e = r := ⟨_, rfl⟩
  have HR := Lib.hid hr
  rw [hr]
  show Calls Tryz.prog 23 #[.agg #[.int .i64 e.k, .int .i64 e.op, .string e.nm, .int .i64 e.v.k, .int .i64 e.v.n, .string e.v.s, .slice A1 e.v.l.length c1, .slice A2 e.ar.length c2]] w _
  obtain ⟨k, hk⟩ : ∃ k, e.k = k := ⟨_, rfl⟩
  obtain ⟨op, hop⟩ : ∃ k, e.op = k := ⟨_, rfl⟩
  obtain ⟨vk, hvk⟩ : ∃ k, e.v.k = k := ⟨_, rfl⟩
  obtain ⟨vn, hvn⟩ : ∃ k, e.v.n = k := ⟨_, rfl⟩
  rw [hk, hop, hvk, hvn]
  unfold rowN at hr
  rw [hk, hop, hvk, hvn] at hr
  clear hk hop hvk hvn HR
  by_cases k1 : k = 1
  · subst k1
    by_cases k2 : vk = 2
    · subst k2
      by_cases k3 : vn < 0
      · have e0 : r = 7 := by rw [← hr]; simp; try omega
        subst e0
        clear hr
        go_enter Tryz.func23, Tryz.ntmps23
        go_wp2
        go_ret
        exact ⟨ret_int rfl, (Below.refl _ _).alloc (Nat.le_refl _) _⟩
      · have e0 : r = 8 := by rw [← hr, if_neg (by omega), if_pos (by decide)]
        subst e0
        clear hr
        go_enter Tryz.func23, Tryz.ntmps23
        go_wp2
        go_ret
        exact ⟨ret_int rfl, (Below.refl _ _).alloc (Nat.le_refl _) _⟩
    · have bv : (vk == 2) = false := by simp; omega
      have e0 : r = 8 := by rw [← hr, if_neg (by omega), if_pos (by decide)]
      subst e0
      clear hr k2
      go_enter Tryz.func23, Tryz.ntmps23
      go_wp2
      go_ret
      exact ⟨ret_int rfl, (Below.refl _ _).alloc (Nat.le_refl _) _⟩
  by_cases k4 : k = 4
  rotate_left
  · have bk1 : (k == 1) = false := by simp; omega
    have bk4 : (k != 4) = true := by simp; omega
    have e0 : r = 8 := by rw [← hr, if_neg (by omega), if_pos k4]
    subst e0
    clear hr k1 k4
    go_enter Tryz.func23, Tryz.ntmps23
    go_wp2
    go_ret
    exact ⟨ret_int rfl, (Below.refl _ _).alloc (Nat.le_refl _) _⟩
  subst k4
  clear k1
  rw [if_neg (by omega), if_neg (by decide)] at hr
  by_cases o3 : op = 3
  · subst o3
    have e0 : r = 1 := by rw [← hr]; decide
    subst e0
    clear hr
    go_enter Tryz.func23, Tryz.ntmps23
    go_wp2
    go_ret
    exact ⟨ret_int rfl, (Below.refl _ _).alloc (Nat.le_refl _) _⟩
  by_cases o2 : op = 2
  · subst o2
    have e0 : r = 2 := by rw [← hr]; decide
    subst e0
    clear hr
    go_enter Tryz.func23, Tryz.ntmps23
    go_wp2
    go_ret
    exact ⟨ret_int rfl, (Below.refl _ _).alloc (Nat.le_refl _) _⟩
  by_cases o1 : op = 1
  · subst o1
    have e0 : r = 3 := by rw [← hr]; decide
    subst e0
    clear hr
    go_enter Tryz.func23, Tryz.ntmps23
    go_wp2
    go_ret
    exact ⟨ret_int rfl, (Below.refl _ _).alloc (Nat.le_refl _) _⟩
  rw [if_neg o3, if_neg o2, if_neg o1] at hr
  have bop3 : (op == 3) = false := by simp; omega
  have bop2 : (op == 2) = false := by simp; omega
  have bop1 : (op == 1) = false := by simp; omega
  clear o1 o2 o3
  by_cases q1 : 4 ≤ op
  rotate_left
  · have bop15 : (op == 15) = false := by simp; omega
    have bop16 : (op == 16) = false := by simp; omega
    have bop17 : (op == 17) = false := by simp; omega
    have bop18 : (op == 18) = false := by simp; omega
    have bop19 : (op == 19) = false := by simp; omega
    have bop20 : (op == 20) = false := by simp; omega
    have e0 : r = 8 := by rw [← hr, if_neg (by omega), if_neg (by omega), if_neg (by omega), if_neg (by omega)]
    subst e0
    clear hr
    go_enter Tryz.func23, Tryz.ntmps23
    go_wp2
    go_ret
    exact ⟨ret_int rfl, (Below.refl _ _).alloc (Nat.le_refl _) _⟩
  by_cases q2 : op ≤ 11
  · have e0 : r = 4 := by rw [← hr, if_pos ⟨q1, q2⟩]
    subst e0
    clear hr
    go_enter Tryz.func23, Tryz.ntmps23
    go_wp2
    go_ret
    exact ⟨ret_int rfl, (Below.refl _ _).alloc (Nat.le_refl _) _⟩
  rw [if_neg (by omega)] at hr
  by_cases o15 : op = 15
  · subst o15
    have e0 : r = 5 := by rw [← hr]; decide
    subst e0
    clear hr bop1 bop2 bop3
    go_enter Tryz.func23, Tryz.ntmps23
    go_wp2
    go_ret
    exact ⟨ret_int rfl, (Below.refl _ _).alloc (Nat.le_refl _) _⟩
  by_cases o16 : op = 16
  · subst o16
    have e0 : r = 5 := by rw [← hr]; decide
    subst e0
    clear hr bop1 bop2 bop3
    go_enter Tryz.func23, Tryz.ntmps23
    go_wp2
    go_ret
    exact ⟨ret_int rfl, (Below.refl _ _).alloc (Nat.le_refl _) _⟩
  by_cases o17 : op = 17
  · subst o17
    have e0 : r = 6 := by rw [← hr]; decide
    subst e0
    clear hr bop1 bop2 bop3
    go_enter Tryz.func23, Tryz.ntmps23
    go_wp2
    go_ret
    exact ⟨ret_int rfl, (Below.refl _ _).alloc (Nat.le_refl _) _⟩
  by_cases o18 : op = 18
  · subst o18
    have e0 : r = 6 := by rw [← hr]; decide
    subst e0
    clear hr bop1 bop2 bop3
    go_enter Tryz.func23, Tryz.ntmps23
    go_wp2
    go_ret
    exact ⟨ret_int rfl, (Below.refl _ _).alloc (Nat.le_refl _) _⟩
  by_cases o19 : op = 19
  · subst o19
    have e0 : r = 6 := by rw [← hr]; decide
    subst e0
    clear hr bop1 bop2 bop3
    go_enter Tryz.func23, Tryz.ntmps23
    go_wp2
    go_ret
    exact ⟨ret_int rfl, (Below.refl _ _).alloc (Nat.le_refl _) _⟩
  by_cases o20 : op = 20
  · subst o20
    have e0 : r = 7 := by rw [← hr]; decide
    subst e0
    clear hr bop1 bop2 bop3
    go_enter Tryz.func23, Tryz.ntmps23
    go_wp2
    go_ret
    exact ⟨ret_int rfl, (Below.refl _ _).alloc (Nat.le_refl _) _⟩
  have bop15 : (op == 15) = false := by simp; omega
  have bop16 : (op == 16) = false := by simp; omega
  have bop17 : (op == 17) = false := by simp; omega
  have bop18 : (op == 18) = false := by simp; omega
  have bop19 : (op == 19) = false := by simp; omega
  have bop20 : (op == 20) = false := by simp; omega
  have e0 : r = 8 := by rw [← hr, if_neg (by omega), if_neg (by omega), if_neg (by omega)]
  subst e0
  clear hr o15 o16 o17 o18 o19 o20
  go_enter Tryz.func23, Tryz.ntmps23
  go_wp2
  go_ret
  exact ⟨ret_int rfl, (Below.refl _ _).alloc (Nat.le_refl _) _⟩
/-- the text of an expression, wherever it lies -/
def TextSpec (F : FuncId) (e : Ex) : Prop := ∀ (B : Nat) (cs : List Value) (w : World), ExAt w B e cs → B ≤ w.heap.size → Tab w → Mx w → Calls Tryz.prog F #[.agg cs.toArray] w fun en w' => en = .returned (.string (tx (e.text))) ∧ Below w.heap.size w w'
theorem par_yes {b : Bool} (t : List UInt8) (h : b = true) : tx (parT b t) = tx [40] ++ tx t ++ tx [41] := by rw [h, tx_cat, tx_cat]; rfl
theorem par_no {b : Bool} (t : List UInt8) (h : b = false) : tx (parT b t) = tx t := by rw [h]; rfl
set_option maxHeartbeats 1000000 in
theorem within_of (e : Ex) (least : Int) (hT : TextSpec 10 e) (hl9 : e.text.length ≤ 1000000000) (B : Nat) (cs : List Value) (w : World) (hx : ExAt w B e cs) (hB : B ≤ w.heap.size) (htab : Tab w) (hm : Mx w) :
    Calls Tryz.prog 25 #[.agg cs.toArray, .int .i64 least] w fun en w' => en = .returned (.string (tx (parT (decide (rowN e < least)) e.text))) ∧ Below w.heap.size w w' := by
  have HX := Lib.hid hx
  have HT := Lib.hid (fun w' (hb : Below w.heap.size w w') cs' (hx' : ExAt w' B e cs') => hT B cs' w' hx' (Nat.le_trans hB hb.size) (tabIs_below htab hb) (hm.below hb))
  have HRW := Lib.hid (fun w' cs' (hx' : ExAt w' B e cs') => row_any e B cs' w' hx')
  obtain ⟨hn, hs, hl, ha, hx, hr, hi⟩ := hx
  rename_i A1 c1 A2 c2 cs
  have HXX := Lib.hid (fun w' (hb : Below w.heap.size w w') => HX.out.keep (hb.mono hB))
  obtain ⟨r, hrr⟩ : ∃ r, rowN e = r := ⟨_, rfl⟩
  obtain ⟨t, htt⟩ : ∃ t, tx e.text = t := ⟨_, rfl⟩
  have hts : t.size ≤ 1000000000 := by rw [← htt, tx_size]; exact hl9
  have HTT := Lib.hid htt
  have HRR := Lib.hid hrr
  clear hx hr hi hT htab hm
  show Calls Tryz.prog 25 #[.agg #[.int .i64 e.k, .int .i64 e.op, .string e.nm, .int .i64 e.v.k, .int .i64 e.v.n, .string e.v.s, .slice A1 e.v.l.length c1, .slice A2 e.ar.length c2], .int .i64 least] w _
  go_enter Tryz.func25, Tryz.ntmps25
  go_upto_region 1 with (fail)
  obtain ⟨W, hW⟩ : ∃ W, W = (w.alloc (.cells #[.int .i64 e.k, .int .i64 e.op, .string e.nm, .int .i64 e.v.k, .int .i64 e.v.n, .string e.v.s, .slice A1 e.v.l.length c1, .slice A2 e.ar.length c2] 27 (0, 0))) := ⟨_, rfl⟩
  have hbw : Below w.heap.size w W := by rw [hW]; exact ((Below.refl _ w).alloc (Nat.le_refl _) _)
  have B0 : Blk W (w.heap.size) 27 #[.int .i64 e.k, .int .i64 e.op, .string e.nm, .int .i64 e.v.k, .int .i64 e.v.n, .string e.v.s, .slice A1 e.v.l.length c1, .slice A2 e.ar.length c2] := by
    rw [hW]
    have := Blk.new w 27 #[.int .i64 e.k, .int .i64 e.op, .string e.nm, .int .i64 e.v.k, .int .i64 e.v.n, .string e.v.s, .slice A1 e.v.l.length c1, .slice A2 e.ar.length c2]
    exact this
  have hsz : W.heap.size = w.heap.size + 1 := by rw [hW]; simp
  rw [← hW]
  have ec0 : W.cell? ⟨w.heap.size, 0, none⟩ = some (.int .i64 e.k) := B0.cell 0
  have ec1 : W.cell? ⟨w.heap.size, 1, none⟩ = some (.int .i64 e.op) := B0.cell 1
  have ec2 : W.cell? ⟨w.heap.size, 2, none⟩ = some (.string e.nm) := B0.cell 2
  have ec3 : W.cell? ⟨w.heap.size, 3, none⟩ = some (.int .i64 e.v.k) := B0.cell 3
  have ec4 : W.cell? ⟨w.heap.size, 4, none⟩ = some (.int .i64 e.v.n) := B0.cell 4
  have ec5 : W.cell? ⟨w.heap.size, 5, none⟩ = some (.string e.v.s) := B0.cell 5
  have ec6 : W.cell? ⟨w.heap.size, 6, none⟩ = some (.slice A1 e.v.l.length c1) := B0.cell 6
  have ec7 : W.cell? ⟨w.heap.size, 7, none⟩ = some (.slice A2 e.ar.length c2) := B0.cell 7
  clear hW hsz
  go_wp2_with fail
  refine (HRW.out W _ (HXX.out W hbw)).mono ?_
  rw [hrr]
  rintro en W1 ⟨rfl, hb1⟩
  have hbw1 := hbw.trans (hb1.mono hbw.size)
  have B0 := B0.below hb1 B0.lt
  clear ec0 ec1 ec2 ec3 ec4 ec5 ec6 ec7 hb1 hrr
  have ec0 : W1.cell? ⟨w.heap.size, 0, none⟩ = some (.int .i64 e.k) := B0.cell 0
  have ec1 : W1.cell? ⟨w.heap.size, 1, none⟩ = some (.int .i64 e.op) := B0.cell 1
  have ec2 : W1.cell? ⟨w.heap.size, 2, none⟩ = some (.string e.nm) := B0.cell 2
  have ec3 : W1.cell? ⟨w.heap.size, 3, none⟩ = some (.int .i64 e.v.k) := B0.cell 3
  have ec4 : W1.cell? ⟨w.heap.size, 4, none⟩ = some (.int .i64 e.v.n) := B0.cell 4
  have ec5 : W1.cell? ⟨w.heap.size, 5, none⟩ = some (.string e.v.s) := B0.cell 5
  have ec6 : W1.cell? ⟨w.heap.size, 6, none⟩ = some (.slice A1 e.v.l.length c1) := B0.cell 6
  have ec7 : W1.cell? ⟨w.heap.size, 7, none⟩ = some (.slice A2 e.ar.length c2) := B0.cell 7
  by_cases hlt : r < least
  · have HP := Lib.hid (par_yes e.text (show decide (rowN e < least) = true by rw [HRR.out]; exact decide_eq_true hlt))
    go_wp2_with fail
    refine (HT.out W1 hbw1 _ (HXX.out W1 hbw1)).mono ?_
    rw [htt]
    rintro en W2 ⟨rfl, hb2⟩
    clear ec0 ec1 ec2 ec3 ec4 ec5 ec6 ec7 htt
    go_wp2_with fail
    go_ret
    exact ⟨by rw [HP.out, HTT.out]; try rfl, hbw1.trans (hb2.mono hbw1.size)⟩
  · have HP := Lib.hid (par_no e.text (show decide (rowN e < least) = false by rw [HRR.out]; exact decide_eq_false hlt))
    go_wp2_with fail
    refine (HT.out W1 hbw1 _ (HXX.out W1 hbw1)).mono ?_
    rw [htt]
    rintro en W2 ⟨rfl, hb2⟩
    clear ec0 ec1 ec2 ec3 ec4 ec5 ec6 ec7 htt
    go_wp2_with fail
    go_ret
    exact ⟨by rw [HP.out, HTT.out]; try rfl, hbw1.trans (hb2.mono hbw1.size)⟩
theorem infoStr : (Tryz.prog.info? 9).map (fun i => (i.zero, i.size, i.bytes)) = some (some (.string ByteArray.empty), 1, 16) := by kernel_rfl
set_option maxHeartbeats 2000000 in
set_option maxRecDepth 100000 in
theorem joined_of (ar : List Ex) (sep : List UInt8) (least : Int) (hT : ∀ a ∈ ar, TextSpec 10 a) (h9 : ∀ a ∈ ar, a.text.length ≤ 1000000000) (hal : ar.length ≤ 1000000) (hj : (Lib.join (insL least ar) sep).length ≤ 1000000000) (A' : Option Addr) (c' B : Nat) (cs : List Value) (w : World) (hr : Reads w B 8 A' ar.length cs) (hi : ∀ i (h : i < ar.length), ExAt w B ar[i] ((cs.drop (i * 8)).take 8)) (hB : B ≤ w.heap.size) (htab : Tab w) (hm : Mx w) :
    Calls Tryz.prog 24 #[.slice A' ar.length c', .string (tx sep), .int .i64 least] w fun en w' => en = .returned (.string (tx (Lib.join (insL least ar) sep))) ∧ Below w.heap.size w w' := by
  have HR := Lib.hid (And.intro hr hi)
  have HJ := Lib.hid hj
  have HTM := Lib.hid (And.intro htab hm)
  have HW := Lib.hid (fun a (ha : a ∈ ar) cs' w' (hx' : ExAt w' B a cs') (hb : Below w.heap.size w w') => within_of a least (hT a ha) (h9 a ha) B cs' w' hx' (Nat.le_trans hB hb.size) (tabIs_below htab hb) (hm.below hb))
  obtain ⟨i0, hi0, hz0, hz1, hz2⟩ := info_parts infoStr
  have HLL := Lib.hid (insL_map least ar)
  clear hr hi htab hm hT h9
  go_enter Tryz.func24, Tryz.ntmps24
  go_wp2_with fail
  have hbr : Below w.heap.size w w := Below.refl _ _
  go_loopw [12, 7] (fun i v wr => ∃ (k : Nat) (u : Value), k ≤ ar.length ∧ i = .int .i64 k ∧ v = u ∧ Hid (wr.ownsRow w.heap.size 9 1 u k ((((insL least ar).take k).map tx).map Value.string)) ∧ Below w.heap.size w wr) (fun i _ _ => ar.length - (intOf i).toNat)
  case atStart => exact ⟨0, _, Nat.zero_le _, rfl, rfl, Lib.hid (World.ownsRow_nil _ _ _ _), hbr⟩
  case round =>
    obtain ⟨k, u, hk, rfl, rfl, HO, hbr⟩ := hrel
    have hsr := hbr.size
    have hBr := hbr.mono hB
    by_cases hlt : k < ar.length
    · obtain ⟨ad, ci, rfl, hb, hci, hcell⟩ := exs_at (HR.out.1.below hBr) (fun i h => (HR.out.2 i h).keep hBr) hlt
      obtain ⟨a, hea⟩ : ∃ a, ar[k] = a := ⟨_, rfl⟩
      have ham : a ∈ ar := by rw [← hea]; exact List.getElem_mem hlt
      have hstep : (insL least ar).take (k + 1) = (insL least ar).take k ++ [parT (decide (rowN a < least)) a.text] := by
        have hlk : k < (insL least ar).length := by rw [ins_len]; exact hlt
        rw [List.take_succ_eq_append_getElem hlk]
        congr 2
        simp only [HLL.out, List.getElem_map, hea]
      have HST := Lib.hid hstep
      have HLT := Lib.hid hlt
      rw [hea] at hci
      have HWA := Lib.hid (HW.out a ham)
      have HCI := Lib.hid hci
      obtain ⟨hn1, hs1, hl1, ha1, hx1, hr1, hi1⟩ := hci
      rename_i A3 c3 A4 c4 cs1
      obtain ⟨t, htt⟩ : ∃ t, tx (parT (decide (rowN a < least)) a.text) = t := ⟨_, rfl⟩
      have HTT := Lib.hid htt
      have fc0 : wr.cell? (ad.add (k * 8)) = some (.int .i64 a.k) := hcell 0 _ rfl
      have fc1 : wr.cell? ⟨(ad.add (k * 8)).block, (ad.add (k * 8)).off + 1, none⟩ = some (.int .i64 a.op) := hcell 1 _ rfl
      have fc2 : wr.cell? ⟨(ad.add (k * 8)).block, (ad.add (k * 8)).off + 2, none⟩ = some (.string a.nm) := hcell 2 _ rfl
      have fc3 : wr.cell? ⟨(ad.add (k * 8)).block, (ad.add (k * 8)).off + 3, none⟩ = some (.int .i64 a.v.k) := hcell 3 _ rfl
      have fc4 : wr.cell? ⟨(ad.add (k * 8)).block, (ad.add (k * 8)).off + 4, none⟩ = some (.int .i64 a.v.n) := hcell 4 _ rfl
      have fc5 : wr.cell? ⟨(ad.add (k * 8)).block, (ad.add (k * 8)).off + 5, none⟩ = some (.string a.v.s) := hcell 5 _ rfl
      have fc6 : wr.cell? ⟨(ad.add (k * 8)).block, (ad.add (k * 8)).off + 6, none⟩ = some (.slice A3 a.v.l.length c3) := hcell 6 _ rfl
      have fc7 : wr.cell? ⟨(ad.add (k * 8)).block, (ad.add (k * 8)).off + 7, none⟩ = some (.slice A4 a.ar.length c4) := hcell 7 _ rfl
      clear hx1 hr1 hi1 hcell hea ham hstep hb
      go_upto_region 5 with (fail)
      obtain ⟨W3, hW3⟩ : ∃ W3, W3 = wr.alloc (.cells #[.int .i64 a.k, .int .i64 a.op, .string a.nm, .int .i64 a.v.k, .int .i64 a.v.n, .string a.v.s, .slice A3 a.v.l.length c3, .slice A4 a.ar.length c4] 27 (0, 0)) := ⟨_, rfl⟩
      have hb3 : Below wr.heap.size wr W3 := hW3 ▸ (Below.refl _ wr).alloc (Nat.le_refl _) _
      have B3 : Blk W3 wr.heap.size 27 #[.int .i64 a.k, .int .i64 a.op, .string a.nm, .int .i64 a.v.k, .int .i64 a.v.n, .string a.v.s, .slice A3 a.v.l.length c3, .slice A4 a.ar.length c4] := hW3 ▸ Blk.new wr _ _
      have HO3 := Lib.hid (show W3.ownsRow w.heap.size 9 1 _ k _ from hW3 ▸ HO.out.alloc _)
      rw [← hW3]
      clear hW3 fc0 fc1 fc2 fc3 fc4 fc5 fc6 fc7
      have hr3 := hbr.trans (hb3.mono hsr)
      have gc0 : W3.cell? ⟨wr.heap.size, 0, none⟩ = some (.int .i64 a.k) := B3.cell 0
      have gc1 : W3.cell? ⟨wr.heap.size, 1, none⟩ = some (.int .i64 a.op) := B3.cell 1
      have gc2 : W3.cell? ⟨wr.heap.size, 2, none⟩ = some (.string a.nm) := B3.cell 2
      have gc3 : W3.cell? ⟨wr.heap.size, 3, none⟩ = some (.int .i64 a.v.k) := B3.cell 3
      have gc4 : W3.cell? ⟨wr.heap.size, 4, none⟩ = some (.int .i64 a.v.n) := B3.cell 4
      have gc5 : W3.cell? ⟨wr.heap.size, 5, none⟩ = some (.string a.v.s) := B3.cell 5
      have gc6 : W3.cell? ⟨wr.heap.size, 6, none⟩ = some (.slice A3 a.v.l.length c3) := B3.cell 6
      have gc7 : W3.cell? ⟨wr.heap.size, 7, none⟩ = some (.slice A4 a.ar.length c4) := B3.cell 7
      go_wp2_with fail
      refine (HWA.out _ W3 (HCI.out.keep (hb3.mono (Nat.le_trans hB hsr))) hr3).mono ?_
      rw [htt]
      rintro en w4 ⟨rfl, hb4⟩
      have hr4 := hr3.trans (hb4.mono hr3.size)
      have HO4 := Lib.hid (own_below HO3.out hb4)
      obtain ⟨xs, hxs⟩ : ∃ xs : List Value, (((insL least ar).take k).map tx).map Value.string = xs := ⟨_, rfl⟩
      have HXS := Lib.hid hxs
      rw [hxs] at HO4
      have HROW := Lib.hid (fun g hg => (HO4.out.lt g hg).1)
      clear hxs htt gc0 gc1 gc2 gc3 gc4 gc5 gc6 gc7 B3
      have hs4 := hr4.size
      go_wp2_with (at_builtin; refine wpList_append_own _ rfl _ _ 53 rfl w.heap.size 9 i0 (.string ByteArray.empty) 1 16 Tryz.underlying53 hi0 hz0 hz1 hz2 rfl (by decide) _ _ _ rfl (HO4.out.alloc _) ⟨w4.heap.size, 0, none⟩ 1 1 [.string t] rfl rfl ?c1 ?c2 ?c3 ?c4 ?c5 ?_)
      case c1 => intro j u hj; cases j <;> simp_all [go_sem]
      case c2 => intro u hu; simp only [List.mem_singleton] at hu; subst hu; rfl
      case c3 => (have h := HLT.out; unfold maxLen; omega)
      case c4 => (have h := HLT.out; omega)
      case c5 => (simp; omega)
      intro v2 w5 hown5 hg5 _
      have hr5 : Below w.heap.size w w5 := (hr4.alloc (by omega) _).grown hg5 (by simp; omega) (fun g hg => HROW.out g hg)
      have HO5 := Lib.hid (show w5.ownsRow w.heap.size 9 1 v2 (k + 1) ((((insL least ar).take (k + 1)).map tx).map Value.string) by rw [HST.out, List.map_append, List.map_append, List.map_singleton, List.map_singleton, HTT.out, HXS.out]; exact hown5)
      clear hown5 hg5
      go_wp2
      go_roundw
      case rel => exact ⟨k + 1, v2, HLT.out, by go_num, rfl, HO5, hr5⟩
      case measure =>
        have := HLT.out
        simp [intOf]
        omega
    · have hke : k = ar.length := by omega
      have htk : (insL least ar).take k = insL least ar := List.take_of_length_le (by rw [ins_len]; omega)
      have HJN := Lib.hid (join_own (n := k) ((insL least ar).map tx) (tx sep) wr (by have h := HO.out; rwa [htk] at h) (by rw [List.length_map, ins_len]; omega) (by rw [tx_data, List.map_map, show ((fun b : ByteArray => b.data.toList) ∘ tx) = id from funext tx_data, List.map_id]; have := HJ.out; omega))
      clear hke htk
      go_wp2_with fail
      refine HJN.out.mono ?_
      rintro en w9 ⟨⟨t, rfl, ht⟩, hb9⟩
      rw [tx_data, List.map_map, show ((fun b : ByteArray => b.data.toList) ∘ tx) = id from funext tx_data, List.map_id] at ht
      have HTE := Lib.hid (tx_of ht)
      clear ht
      go_wp2_with fail
      go_ret
      exact ⟨by rw [HTE.out]; try rfl, hbr.trans (hb9.mono hsr)⟩
end Go.Proofs.YtobanldeicclmaaGreatDoor
