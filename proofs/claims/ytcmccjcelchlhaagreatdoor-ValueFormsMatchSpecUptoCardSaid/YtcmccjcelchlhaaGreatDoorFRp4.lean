/- The walks of the reference's infix, write: constant, name, row, over. -/
import Derived.Test.YtcmccjcelchlhaaGreatDoorF10
import Derived.Test.YtcmccjcelchlhaaGreatDoorF12
import Derived.Deep.DrawnRows
import Derived.IntWalk
import Derived.Deep.RegionHeld3
namespace Go.Proofs.YtcmccjcelchlhaaGreatDoor
open Go.RowKit
attribute [local go_sem ↓] Go.wp_at_zero Go.wp_at_succ

theorem rinfix_any (op : Int) (w : World) : Calls Tryz.prog 68 #[.int .i64 op] w fun e w' => e = .returned (.string (tx (infixT op))) ∧ Below w.heap.size w w' := by
  obtain ⟨t, ht⟩ : ∃ t, tx (infixT op) = t := ⟨_, rfl⟩
  rw [ht]
  unfold infixT at ht
  by_cases o4 : op = 4
  · subst o4
    have HT := Lib.hid ht
    clear ht
    go_enter Tryz.func68, Tryz.ntmps68
    go_wp2
    go_ret
    exact ⟨by rw [← HT.out]; rfl, Below.refl _ _⟩
  rw [if_neg o4] at ht
  have b4 : (op == 4) = false := by simpa using o4
  clear o4
  by_cases o5 : op = 5
  · subst o5
    have HT := Lib.hid ht
    clear ht
    go_enter Tryz.func68, Tryz.ntmps68
    go_wp2
    go_ret
    exact ⟨by rw [← HT.out]; rfl, Below.refl _ _⟩
  rw [if_neg o5] at ht
  have b5 : (op == 5) = false := by simpa using o5
  clear o5
  by_cases o6 : op = 6
  · subst o6
    have HT := Lib.hid ht
    clear ht
    go_enter Tryz.func68, Tryz.ntmps68
    go_wp2
    go_ret
    exact ⟨by rw [← HT.out]; rfl, Below.refl _ _⟩
  rw [if_neg o6] at ht
  have b6 : (op == 6) = false := by simpa using o6
  clear o6
  by_cases o7 : op = 7
  · subst o7
    have HT := Lib.hid ht
    clear ht
    go_enter Tryz.func68, Tryz.ntmps68
    go_wp2
    go_ret
    exact ⟨by rw [← HT.out]; rfl, Below.refl _ _⟩
  rw [if_neg o7] at ht
  have b7 : (op == 7) = false := by simpa using o7
  clear o7
  by_cases o8 : op = 8
  · subst o8
    have HT := Lib.hid ht
    clear ht
    go_enter Tryz.func68, Tryz.ntmps68
    go_wp2
    go_ret
    exact ⟨by rw [← HT.out]; rfl, Below.refl _ _⟩
  rw [if_neg o8] at ht
  have b8 : (op == 8) = false := by simpa using o8
  clear o8
  by_cases o9 : op = 9
  · subst o9
    have HT := Lib.hid ht
    clear ht
    go_enter Tryz.func68, Tryz.ntmps68
    go_wp2
    go_ret
    exact ⟨by rw [← HT.out]; rfl, Below.refl _ _⟩
  rw [if_neg o9] at ht
  have b9 : (op == 9) = false := by simpa using o9
  clear o9
  by_cases o10 : op = 10
  · subst o10
    have HT := Lib.hid ht
    clear ht
    go_enter Tryz.func68, Tryz.ntmps68
    go_wp2
    go_ret
    exact ⟨by rw [← HT.out]; rfl, Below.refl _ _⟩
  rw [if_neg o10] at ht
  have b10 : (op == 10) = false := by simpa using o10
  clear o10
  by_cases o11 : op = 11
  · subst o11
    have HT := Lib.hid ht
    clear ht
    go_enter Tryz.func68, Tryz.ntmps68
    go_wp2
    go_ret
    exact ⟨by rw [← HT.out]; rfl, Below.refl _ _⟩
  rw [if_neg o11] at ht
  have b11 : (op == 11) = false := by simpa using o11
  clear o11
  by_cases o15 : op = 15
  · subst o15
    have HT := Lib.hid ht
    clear ht
    go_enter Tryz.func68, Tryz.ntmps68
    go_wp2
    go_ret
    exact ⟨by rw [← HT.out]; rfl, Below.refl _ _⟩
  rw [if_neg o15] at ht
  have b15 : (op == 15) = false := by simpa using o15
  clear o15
  by_cases o16 : op = 16
  · subst o16
    have HT := Lib.hid ht
    clear ht
    go_enter Tryz.func68, Tryz.ntmps68
    go_wp2
    go_ret
    exact ⟨by rw [← HT.out]; rfl, Below.refl _ _⟩
  rw [if_neg o16] at ht
  have b16 : (op == 16) = false := by simpa using o16
  clear o16
  by_cases o17 : op = 17
  · subst o17
    have HT := Lib.hid ht
    clear ht
    go_enter Tryz.func68, Tryz.ntmps68
    go_wp2
    go_ret
    exact ⟨by rw [← HT.out]; rfl, Below.refl _ _⟩
  rw [if_neg o17] at ht
  have b17 : (op == 17) = false := by simpa using o17
  clear o17
  by_cases o18 : op = 18
  · subst o18
    have HT := Lib.hid ht
    clear ht
    go_enter Tryz.func68, Tryz.ntmps68
    go_wp2
    go_ret
    exact ⟨by rw [← HT.out]; rfl, Below.refl _ _⟩
  rw [if_neg o18] at ht
  have b18 : (op == 18) = false := by simpa using o18
  clear o18
  by_cases o19 : op = 19
  · subst o19
    have HT := Lib.hid ht
    clear ht
    go_enter Tryz.func68, Tryz.ntmps68
    go_wp2
    go_ret
    exact ⟨by rw [← HT.out]; rfl, Below.refl _ _⟩
  rw [if_neg o19] at ht
  have b19 : (op == 19) = false := by simpa using o19
  clear o19
  have HT := Lib.hid ht
  clear ht
  go_enter Tryz.func68, Tryz.ntmps68
  go_wp2
  go_ret
  exact ⟨by rw [← HT.out]; rfl, Below.refl _ _⟩
def rOvers : List (List UInt8) := [[115, 117, 109], [99, 111, 117, 110, 116], [97, 110, 121], [97, 108, 108], [108, 101, 97, 115, 116], [109, 111, 115, 116]]
def rFuncs : List (List UInt8) := [[97, 110, 115, 119, 101, 114, 101, 100], [97, 115, 107, 101, 100], [114, 101, 97, 115, 111, 110], [45], [45], [45], [45], [45], [45], [97, 98, 115], [102, 108, 111, 111, 114], [114, 111, 117, 110, 100], [109, 105, 110], [109, 97, 120], [105, 102], [101, 108, 115, 101], [115, 105, 122, 101], [99, 111, 100, 101], [108, 111, 119, 101, 114], [106, 111, 105, 110], [98, 101, 103, 105, 110, 115], [104, 111, 108, 100, 115], [121, 101, 97, 114], [109, 111, 110, 116, 104], [100, 97, 121], [100, 97, 121, 115], [97, 103, 101], [108, 97, 116, 101, 114]]
theorem rOvers_eq : Lib.fields (⟨#[115, 117, 109, 32, 99, 111, 117, 110, 116, 32, 97, 110, 121, 32, 97, 108, 108, 32, 108, 101, 97, 115, 116, 32, 109, 111, 115, 116]⟩ : ByteArray).data.toList = rOvers := by decide +kernel
set_option maxRecDepth 100000 in
theorem rFuncs_eq : Lib.fields (⟨#[97, 110, 115, 119, 101, 114, 101, 100, 32, 97, 115, 107, 101, 100, 32, 114, 101, 97, 115, 111, 110, 32, 45, 32, 45, 32, 45, 32, 45, 32, 45, 32, 45, 32, 97, 98, 115, 32, 102, 108, 111, 111, 114, 32, 114, 111, 117, 110, 100, 32, 109, 105, 110, 32, 109, 97, 120, 32, 105, 102, 32, 101, 108, 115, 101, 32, 115, 105, 122, 101, 32, 99, 111, 100, 101, 32, 108, 111, 119, 101, 114, 32, 106, 111, 105, 110, 32, 98, 101, 103, 105, 110, 115, 32, 104, 111, 108, 100, 115, 32, 121, 101, 97, 114, 32, 109, 111, 110, 116, 104, 32, 100, 97, 121, 32, 100, 97, 121, 115, 32, 97, 103, 101, 32, 108, 97, 116, 101, 114]⟩ : ByteArray).data.toList = rFuncs := by decide +kernel
theorem rOvers_at : ∀ n : Nat, n < 6 → rOvers[n]? = some (overT' (1 + n)) := by decide
theorem rFuncs_at : ∀ n : Nat, n < 28 → ¬ (3 ≤ n ∧ n ≤ 8) → rFuncs[n]? = some (funcT (12 + n)) := by decide
theorem fields_cell {l : List (List UInt8)} {n : Nat} {x : List UInt8} (w : World) (h : l[n]? = some x) : (w.alloc (.cells (l.map fun l => Value.string ⟨l.toArray⟩).toArray 9)).cell? ⟨w.heap.size, n, none⟩ = some (.string (tx x)) := by
  rw [(Blk.new w _ _).cell n]
  simp [h, tx]
theorem rovers_call (op : Int) (h1 : 1 ≤ op) (h2 : op ≤ 6) (w : World) (hs : Sp w) : Calls Tryz.prog 64 #[.string ⟨#[115, 117, 109, 32, 99, 111, 117, 110, 116, 32, 97, 110, 121, 32, 97, 108, 108, 32, 108, 101, 97, 115, 116, 32, 109, 111, 115, 116]⟩] w fun e w' => ∃ b o, e = .returned (.slice (some ⟨b, o, none⟩) 6 6) ∧ w'.cell? ⟨b, o + (op - 1).toNat, none⟩ = some (.string (tx (overT' op))) ∧ Below w.heap.size w w' := by
  have hc := Tryz.strings_Fields ⟨#[115, 117, 109, 32, 99, 111, 117, 110, 116, 32, 97, 110, 121, 32, 97, 108, 108, 32, 108, 101, 97, 115, 116, 32, 109, 111, 115, 116]⟩ w (by decide) (ascii_dec _ (by decide +kernel)) hs
  rw [rOvers_eq] at hc
  refine hc.mono ?_
  rintro e w' ⟨rfl, rfl⟩
  refine ⟨w.heap.size, 0, rfl, ?_, (Below.refl _ w).alloc (Nat.le_refl _) _⟩
  rw [Nat.zero_add]
  refine fields_cell w ?_
  rw [rOvers_at _ (by omega), show (1 : Int) + ((op - 1).toNat : Int) = op by omega]
set_option maxRecDepth 100000 in
theorem rfuncs_call (op : Int) (h1 : 12 ≤ op) (h2 : op ≤ 39) (h3 : ¬ (15 ≤ op ∧ op ≤ 20)) (w : World) (hs : Sp w) : Calls Tryz.prog 64 #[.string ⟨#[97, 110, 115, 119, 101, 114, 101, 100, 32, 97, 115, 107, 101, 100, 32, 114, 101, 97, 115, 111, 110, 32, 45, 32, 45, 32, 45, 32, 45, 32, 45, 32, 45, 32, 97, 98, 115, 32, 102, 108, 111, 111, 114, 32, 114, 111, 117, 110, 100, 32, 109, 105, 110, 32, 109, 97, 120, 32, 105, 102, 32, 101, 108, 115, 101, 32, 115, 105, 122, 101, 32, 99, 111, 100, 101, 32, 108, 111, 119, 101, 114, 32, 106, 111, 105, 110, 32, 98, 101, 103, 105, 110, 115, 32, 104, 111, 108, 100, 115, 32, 121, 101, 97, 114, 32, 109, 111, 110, 116, 104, 32, 100, 97, 121, 32, 100, 97, 121, 115, 32, 97, 103, 101, 32, 108, 97, 116, 101, 114]⟩] w fun e w' => ∃ b o, e = .returned (.slice (some ⟨b, o, none⟩) 28 28) ∧ w'.cell? ⟨b, o + (op - 12).toNat, none⟩ = some (.string (tx (funcT op))) ∧ Below w.heap.size w w' := by
  have hc := Tryz.strings_Fields ⟨#[97, 110, 115, 119, 101, 114, 101, 100, 32, 97, 115, 107, 101, 100, 32, 114, 101, 97, 115, 111, 110, 32, 45, 32, 45, 32, 45, 32, 45, 32, 45, 32, 45, 32, 97, 98, 115, 32, 102, 108, 111, 111, 114, 32, 114, 111, 117, 110, 100, 32, 109, 105, 110, 32, 109, 97, 120, 32, 105, 102, 32, 101, 108, 115, 101, 32, 115, 105, 122, 101, 32, 99, 111, 100, 101, 32, 108, 111, 119, 101, 114, 32, 106, 111, 105, 110, 32, 98, 101, 103, 105, 110, 115, 32, 104, 111, 108, 100, 115, 32, 121, 101, 97, 114, 32, 109, 111, 110, 116, 104, 32, 100, 97, 121, 32, 100, 97, 121, 115, 32, 97, 103, 101, 32, 108, 97, 116, 101, 114]⟩ w (by decide) (ascii_dec _ (by decide +kernel)) hs
  rw [rFuncs_eq] at hc
  refine hc.mono ?_
  rintro e w' ⟨rfl, rfl⟩
  refine ⟨w.heap.size, 0, rfl, ?_, (Below.refl _ w).alloc (Nat.le_refl _) _⟩
  rw [Nat.zero_add]
  refine fields_cell w ?_
  rw [rFuncs_at _ (by omega) (by omega), show (12 : Int) + ((op - 12).toNat : Int) = op by omega]
theorem reads_up {w : World} {B B' size n : Nat} {A : Option Addr} {xs : List Value} (h : Reads w B size A n xs) (hb : B ≤ B') : Reads w B' size A n xs :=
  ⟨h.1, fun hn => by
    obtain ⟨ad, e, hl, hc⟩ := h.2 hn
    exact ⟨ad, e, by omega, hc⟩⟩
set_option maxHeartbeats 4000000 in
set_option maxRecDepth 100000 in
theorem rtext_1 (e : Ex) (hk : e.k = 1) (hI : ∀ a ∈ e.ar, RTextSpec 26 a) (h9 : ∀ a ∈ e.ar, a.text.length ≤ 1000000000) (hj : ∀ l, ((insL l e.ar).map List.length).sum + 98 * e.ar.length ≤ 999999000) (hla : e.ar.length ≤ 999999) (hP : partF e = 0) (B : Nat) (cs : List Value) (w : World) (hx : ExAt w B e cs) (hB : B ≤ w.heap.size) (htab : Tab w) (hm : MxS w) :
    Calls Tryz.prog 26 #[.agg cs.toArray] w fun en w' => en = .returned (.string (tx (e.text))) ∧ Below w.heap.size w w' := by
  have P := partOk hP
  have HX := Lib.hid hx
  obtain ⟨R, hR⟩ : ∃ R, e.text = R := ⟨_, rfl⟩
  rw [hR]
  have hte := hR.symm.trans (text_eq e)
  have HTM := Lib.hid (fun w' (hb : Below w.heap.size w w') => And.intro (tabIs_below htab hb) (hm.below hb))
  obtain ⟨hn, hs, hl, ha, hx, hr, hi⟩ := hx
  rename_i A1 c1 A2 c2 cs
  have HXX := Lib.hid (fun w' (hb : Below w.heap.size w w') => HX.out.keep (hb.mono hB))
  have hk1 : (e.k == 1) = true := by rw [hk]; rfl
  have hk2 : (e.k == 2) = false := by rw [hk]; rfl
  have hk3 : (e.k == 3) = false := by rw [hk]; rfl
  have hk5 : (e.k == 5) = false := by rw [hk]; rfl
  have HQ := Lib.hid (And.intro (snd_of (part_const' hP hk)) (part_const' hP hk))
  have HRX := Lib.hid hx
  have hv := show_le (part_const' hP hk)
  have HR := Lib.hid (show tx R = tx (Vtx.showT e.v.k e.v.n e.v.s.data.toList e.v.l) by rw [hte, if_pos hk])
  clear hx hr hi htab hm hI h9 hj hla hR hte P hP hk hv
  show Calls Tryz.prog 26 #[.agg #[.int .i64 e.k, .int .i64 e.op, .string e.nm, .int .i64 e.v.k, .int .i64 e.v.n, .string e.v.s, .slice A1 e.v.l.length c1, .slice A2 e.ar.length c2]] w _
  go_enter Tryz.func26, Tryz.ntmps26
  go_upto_region 1 with (fail)
  obtain ⟨W, hW⟩ : ∃ W, W = (w.alloc (.cells #[.int .i64 e.k, .int .i64 e.op, .string e.nm, .int .i64 e.v.k, .int .i64 e.v.n, .string e.v.s, .slice A1 e.v.l.length c1, .slice A2 e.ar.length c2] 27 (0, 0))) := ⟨_, rfl⟩
  have hbw : Below w.heap.size w W := by rw [hW]; exact ((Below.refl _ w).alloc (Nat.le_refl _) _)
  have B0 : Blk W (w.heap.size) 27 #[.int .i64 e.k, .int .i64 e.op, .string e.nm, .int .i64 e.v.k, .int .i64 e.v.n, .string e.v.s, .slice A1 e.v.l.length c1, .slice A2 e.ar.length c2] := by
    rw [hW]
    have := Blk.new w 27 #[.int .i64 e.k, .int .i64 e.op, .string e.nm, .int .i64 e.v.k, .int .i64 e.v.n, .string e.v.s, .slice A1 e.v.l.length c1, .slice A2 e.ar.length c2]
    exact this
  have hsz : W.heap.size = w.heap.size + 1 := by rw [hW]; simp
  rw [← hW]
  have ec0 : W.cell? ⟨w.heap.size, 0, none⟩ = some (.int .i64 e.k) := B0.cell 0
  have ec1 : W.cell? ⟨w.heap.size, 1, none⟩ = some (.int .i64 e.op) := B0.cell 1
  have ec2 : W.cell? ⟨w.heap.size, 2, none⟩ = some (.string e.nm) := B0.cell 2
  have ec3 : W.cell? ⟨w.heap.size, 3, none⟩ = some (.int .i64 e.v.k) := B0.cell 3
  have ec4 : W.cell? ⟨w.heap.size, 4, none⟩ = some (.int .i64 e.v.n) := B0.cell 4
  have ec5 : W.cell? ⟨w.heap.size, 5, none⟩ = some (.string e.v.s) := B0.cell 5
  have ec6 : W.cell? ⟨w.heap.size, 6, none⟩ = some (.slice A1 e.v.l.length c1) := B0.cell 6
  have ec7 : W.cell? ⟨w.heap.size, 7, none⟩ = some (.slice A2 e.ar.length c2) := B0.cell 7
  clear hW hsz
  go_wp2_with fail
  refine (rshow_any e.v.k e.v.n e.v.s e.v.l _ A1 c1 B W rfl HQ.out.1.1 HQ.out.2 HQ.out.1.2.1 HQ.out.1.2.2 (reads_up (HRX.out.below (hbw.mono hB)) (Nat.le_trans hB hbw.size)) (HTM.out W hbw).1 (HTM.out W hbw).2.1).mono ?_
  rintro en W1 ⟨⟨t, rfl, ht⟩, hb1⟩
  have HT := Lib.hid (tx_of ht)
  clear ht ec0 ec1 ec2 ec3 ec4 ec5 ec6 ec7 B0
  go_wp2_with fail
  go_ret
  exact ⟨by rw [HR.out, ← HT.out]; try rfl, hbw.trans (hb1.mono hbw.size)⟩
set_option maxHeartbeats 4000000 in
set_option maxRecDepth 100000 in
theorem rtext_2 (e : Ex) (hk : e.k = 2) (hI : ∀ a ∈ e.ar, RTextSpec 26 a) (h9 : ∀ a ∈ e.ar, a.text.length ≤ 1000000000) (hj : ∀ l, ((insL l e.ar).map List.length).sum + 98 * e.ar.length ≤ 999999000) (hla : e.ar.length ≤ 999999) (hP : partF e = 0) (B : Nat) (cs : List Value) (w : World) (hx : ExAt w B e cs) (hB : B ≤ w.heap.size) (htab : Tab w) (hm : MxS w) :
    Calls Tryz.prog 26 #[.agg cs.toArray] w fun en w' => en = .returned (.string (tx (e.text))) ∧ Below w.heap.size w w' := by
  have P := partOk hP
  have HX := Lib.hid hx
  obtain ⟨R, hR⟩ : ∃ R, e.text = R := ⟨_, rfl⟩
  rw [hR]
  have hte := hR.symm.trans (text_eq e)
  have HTM := Lib.hid (fun w' (hb : Below w.heap.size w w') => And.intro (tabIs_below htab hb) (hm.below hb))
  obtain ⟨hn, hs, hl, ha, hx, hr, hi⟩ := hx
  rename_i A1 c1 A2 c2 cs
  have HXX := Lib.hid (fun w' (hb : Below w.heap.size w w') => HX.out.keep (hb.mono hB))
  have hk1 : (e.k == 1) = false := by rw [hk]; rfl
  have hk2 : (e.k == 2) = true := by rw [hk]; rfl
  have hk3 : (e.k == 3) = false := by rw [hk]; rfl
  have hk5 : (e.k == 5) = false := by rw [hk]; rfl
  have HR := Lib.hid (show tx R = e.nm by rw [hte, if_neg (by omega), if_pos hk]; exact (tx_of rfl).symm)
  clear hx hr hi htab hm hI h9 hj hla hR hte P hP hk
  show Calls Tryz.prog 26 #[.agg #[.int .i64 e.k, .int .i64 e.op, .string e.nm, .int .i64 e.v.k, .int .i64 e.v.n, .string e.v.s, .slice A1 e.v.l.length c1, .slice A2 e.ar.length c2]] w _
  go_enter Tryz.func26, Tryz.ntmps26
  go_upto_region 1 with (fail)
  obtain ⟨W, hW⟩ : ∃ W, W = (w.alloc (.cells #[.int .i64 e.k, .int .i64 e.op, .string e.nm, .int .i64 e.v.k, .int .i64 e.v.n, .string e.v.s, .slice A1 e.v.l.length c1, .slice A2 e.ar.length c2] 27 (0, 0))) := ⟨_, rfl⟩
  have hbw : Below w.heap.size w W := by rw [hW]; exact ((Below.refl _ w).alloc (Nat.le_refl _) _)
  have B0 : Blk W (w.heap.size) 27 #[.int .i64 e.k, .int .i64 e.op, .string e.nm, .int .i64 e.v.k, .int .i64 e.v.n, .string e.v.s, .slice A1 e.v.l.length c1, .slice A2 e.ar.length c2] := by
    rw [hW]
    have := Blk.new w 27 #[.int .i64 e.k, .int .i64 e.op, .string e.nm, .int .i64 e.v.k, .int .i64 e.v.n, .string e.v.s, .slice A1 e.v.l.length c1, .slice A2 e.ar.length c2]
    exact this
  have hsz : W.heap.size = w.heap.size + 1 := by rw [hW]; simp
  rw [← hW]
  have ec0 : W.cell? ⟨w.heap.size, 0, none⟩ = some (.int .i64 e.k) := B0.cell 0
  have ec1 : W.cell? ⟨w.heap.size, 1, none⟩ = some (.int .i64 e.op) := B0.cell 1
  have ec2 : W.cell? ⟨w.heap.size, 2, none⟩ = some (.string e.nm) := B0.cell 2
  have ec3 : W.cell? ⟨w.heap.size, 3, none⟩ = some (.int .i64 e.v.k) := B0.cell 3
  have ec4 : W.cell? ⟨w.heap.size, 4, none⟩ = some (.int .i64 e.v.n) := B0.cell 4
  have ec5 : W.cell? ⟨w.heap.size, 5, none⟩ = some (.string e.v.s) := B0.cell 5
  have ec6 : W.cell? ⟨w.heap.size, 6, none⟩ = some (.slice A1 e.v.l.length c1) := B0.cell 6
  have ec7 : W.cell? ⟨w.heap.size, 7, none⟩ = some (.slice A2 e.ar.length c2) := B0.cell 7
  clear hW hsz
  clear B0
  go_wp2_with fail
  go_ret
  exact ⟨by rw [HR.out]; try rfl, hbw⟩
set_option maxHeartbeats 4000000 in
set_option maxRecDepth 100000 in
theorem rtext_3 (e : Ex) (hk : e.k = 3) (hI : ∀ a ∈ e.ar, RTextSpec 26 a) (h9 : ∀ a ∈ e.ar, a.text.length ≤ 1000000000) (hj : ∀ l, ((insL l e.ar).map List.length).sum + 98 * e.ar.length ≤ 999999000) (hla : e.ar.length ≤ 999999) (hP : partF e = 0) (B : Nat) (cs : List Value) (w : World) (hx : ExAt w B e cs) (hB : B ≤ w.heap.size) (htab : Tab w) (hm : MxS w) :
    Calls Tryz.prog 26 #[.agg cs.toArray] w fun en w' => en = .returned (.string (tx (e.text))) ∧ Below w.heap.size w w' := by
  have P := partOk hP
  have HX := Lib.hid hx
  obtain ⟨R, hR⟩ : ∃ R, e.text = R := ⟨_, rfl⟩
  rw [hR]
  have hte := hR.symm.trans (text_eq e)
  have HTM := Lib.hid (fun w' (hb : Below w.heap.size w w') => And.intro (tabIs_below htab hb) (hm.below hb))
  obtain ⟨hn, hs, hl, ha, hx, hr, hi⟩ := hx
  rename_i A1 c1 A2 c2 cs
  have HXX := Lib.hid (fun w' (hb : Below w.heap.size w w') => HX.out.keep (hb.mono hB))
  have hk1 : (e.k == 1) = false := by rw [hk]; rfl
  have hk2 : (e.k == 2) = false := by rw [hk]; rfl
  have hk3 : (e.k == 3) = true := by rw [hk]; rfl
  have hk5 : (e.k == 5) = false := by rw [hk]; rfl
  have hnl := name_le (part_name hP (.inr (.inl hk)))
  have hns : e.nm.size ≤ 16 := by simpa using hnl
  have HR := Lib.hid (show tx R = ⟨#[114, 111, 119, 40]⟩ ++ e.nm ++ ⟨#[41]⟩ by rw [hte, if_neg (by omega), if_neg (by omega), if_pos hk, ← tx_cat, ← tx_cat, ← tx_of (t := e.nm) rfl]; rfl)
  clear hx hr hi htab hm hI h9 hj hla hR hte P hP hk hnl
  show Calls Tryz.prog 26 #[.agg #[.int .i64 e.k, .int .i64 e.op, .string e.nm, .int .i64 e.v.k, .int .i64 e.v.n, .string e.v.s, .slice A1 e.v.l.length c1, .slice A2 e.ar.length c2]] w _
  go_enter Tryz.func26, Tryz.ntmps26
  go_upto_region 1 with (fail)
  obtain ⟨W, hW⟩ : ∃ W, W = (w.alloc (.cells #[.int .i64 e.k, .int .i64 e.op, .string e.nm, .int .i64 e.v.k, .int .i64 e.v.n, .string e.v.s, .slice A1 e.v.l.length c1, .slice A2 e.ar.length c2] 27 (0, 0))) := ⟨_, rfl⟩
  have hbw : Below w.heap.size w W := by rw [hW]; exact ((Below.refl _ w).alloc (Nat.le_refl _) _)
  have B0 : Blk W (w.heap.size) 27 #[.int .i64 e.k, .int .i64 e.op, .string e.nm, .int .i64 e.v.k, .int .i64 e.v.n, .string e.v.s, .slice A1 e.v.l.length c1, .slice A2 e.ar.length c2] := by
    rw [hW]
    have := Blk.new w 27 #[.int .i64 e.k, .int .i64 e.op, .string e.nm, .int .i64 e.v.k, .int .i64 e.v.n, .string e.v.s, .slice A1 e.v.l.length c1, .slice A2 e.ar.length c2]
    exact this
  have hsz : W.heap.size = w.heap.size + 1 := by rw [hW]; simp
  rw [← hW]
  have ec0 : W.cell? ⟨w.heap.size, 0, none⟩ = some (.int .i64 e.k) := B0.cell 0
  have ec1 : W.cell? ⟨w.heap.size, 1, none⟩ = some (.int .i64 e.op) := B0.cell 1
  have ec2 : W.cell? ⟨w.heap.size, 2, none⟩ = some (.string e.nm) := B0.cell 2
  have ec3 : W.cell? ⟨w.heap.size, 3, none⟩ = some (.int .i64 e.v.k) := B0.cell 3
  have ec4 : W.cell? ⟨w.heap.size, 4, none⟩ = some (.int .i64 e.v.n) := B0.cell 4
  have ec5 : W.cell? ⟨w.heap.size, 5, none⟩ = some (.string e.v.s) := B0.cell 5
  have ec6 : W.cell? ⟨w.heap.size, 6, none⟩ = some (.slice A1 e.v.l.length c1) := B0.cell 6
  have ec7 : W.cell? ⟨w.heap.size, 7, none⟩ = some (.slice A2 e.ar.length c2) := B0.cell 7
  clear hW hsz
  clear B0
  go_wp2_with fail
  go_ret
  exact ⟨by rw [HR.out]; try rfl, hbw⟩
set_option maxHeartbeats 4000000 in
set_option maxRecDepth 100000 in
theorem rtext_over (e : Ex) (hk : e.k = 5) (hI : ∀ a ∈ e.ar, RTextSpec 26 a) (h9 : ∀ a ∈ e.ar, a.text.length ≤ 1000000000) (hj : ∀ l, ((insL l e.ar).map List.length).sum + 98 * e.ar.length ≤ 999999000) (hla : e.ar.length ≤ 999999) (hP : partF e = 0) (B : Nat) (cs : List Value) (w : World) (hx : ExAt w B e cs) (hB : B ≤ w.heap.size) (htab : Tab w) (hm : MxS w) :
    Calls Tryz.prog 26 #[.agg cs.toArray] w fun en w' => en = .returned (.string (tx (e.text))) ∧ Below w.heap.size w w' := by
  have P := partOk hP
  have HX := Lib.hid hx
  obtain ⟨R, hR⟩ : ∃ R, e.text = R := ⟨_, rfl⟩
  rw [hR]
  have hte := hR.symm.trans (text_eq e)
  have HTM := Lib.hid (fun w' (hb : Below w.heap.size w w') => And.intro (tabIs_below htab hb) (hm.below hb))
  obtain ⟨hn, hs, hl, ha, hx, hr, hi⟩ := hx
  rename_i A1 c1 A2 c2 cs
  have HXX := Lib.hid (fun w' (hb : Below w.heap.size w w') => HX.out.keep (hb.mono hB))
  have hk1 : (e.k == 1) = false := by rw [hk]; rfl
  have hk2 : (e.k == 2) = false := by rw [hk]; rfl
  have hk3 : (e.k == 3) = false := by rw [hk]; rfl
  have hk5 : (e.k == 5) = true := by rw [hk]; rfl
  rw [if_neg (by omega), if_neg (by omega), if_neg (by omega), if_pos hk] at hte
  have hop := P.op5 hk
  have h1 := P.a5 hk
  have hnl := name_le (part_name hP (.inr (.inr hk)))
  have hns : e.nm.size ≤ 16 := by simpa using hnl
  obtain ⟨ad, ci0, rfl, hb0, hci0, hcell0⟩ := exs_at hr hi (show 0 < e.ar.length by omega)
  have hg := ins_get 0 e.ar 0 (by omega)
  have hz := h9 _ (List.getElem_mem (show 0 < e.ar.length by omega))
  have hTa := hI _ (List.getElem_mem (show 0 < e.ar.length by omega))
  obtain ⟨a, hea⟩ : ∃ a, e.ar[0] = a := ⟨_, rfl⟩
  rw [hea] at hci0 hg hz hTa
  have HCI := Lib.hid hci0
  obtain ⟨z1, z2, z3, z4, hxa, hra, hia⟩ := hci0
  rename_i A3 c3 A4 c4 cs3
  have hcell0' : ∀ j u, (exCells a A3 c3 A4 c4)[j]? = some u → w.cell? (ad.add j) = some u := fun j u hu => by have h := hcell0 j u hu; rwa [Nat.zero_mul, add_zero_ad] at h
  have fc0 : w.cell? (ad) = some (.int .i64 a.k) := hcell0' 0 _ rfl
  have fc1 : w.cell? ⟨(ad).block, (ad).off + 1, none⟩ = some (.int .i64 a.op) := hcell0' 1 _ rfl
  have fc2 : w.cell? ⟨(ad).block, (ad).off + 2, none⟩ = some (.string a.nm) := hcell0' 2 _ rfl
  have fc3 : w.cell? ⟨(ad).block, (ad).off + 3, none⟩ = some (.int .i64 a.v.k) := hcell0' 3 _ rfl
  have fc4 : w.cell? ⟨(ad).block, (ad).off + 4, none⟩ = some (.int .i64 a.v.n) := hcell0' 4 _ rfl
  have fc5 : w.cell? ⟨(ad).block, (ad).off + 5, none⟩ = some (.string a.v.s) := hcell0' 5 _ rfl
  have fc6 : w.cell? ⟨(ad).block, (ad).off + 6, none⟩ = some (.slice A3 a.v.l.length c3) := hcell0' 6 _ rfl
  have fc7 : w.cell? ⟨(ad).block, (ad).off + 7, none⟩ = some (.slice A4 a.ar.length c4) := hcell0' 7 _ rfl
  have HL1 := Lib.hid h1
  have hrb := row_bd a
  obtain ⟨t, htt⟩ : ∃ t, tx a.text = t := ⟨_, rfl⟩
  obtain ⟨s, hss⟩ : ∃ s, tx (overT' e.op) = s := ⟨_, rfl⟩
  have st : t.size ≤ 1000000000 := by rw [← htt, tx_size]; exact hz
  have ss : s.size ≤ 5 := by rw [← hss, tx_size]; exact over_le e.op
  have HSS := Lib.hid hss
  have HTT := Lib.hid htt
  have HOP := Lib.hid hop
  have HTA := Lib.hid hTa
  have HR := Lib.hid (show tx R = s ++ ⟨#[40]⟩ ++ e.nm ++ ⟨#[58, 32]⟩ ++ t ++ ⟨#[41]⟩ by
    rw [hte, hg, ← hss, ← htt]
    have hp : parT (decide (rowN a < 0)) a.text = a.text := by unfold parT; rw [decide_eq_false (by omega)]; rfl
    rw [hp]
    have hnm : e.nm = tx e.nm.data.toList := tx_of rfl
    rw [hnm, ← tx_cat, ← tx_cat, ← tx_cat, ← tx_cat, ← tx_cat]
    rw [← hnm]; try rfl)
  obtain ⟨q, hq⟩ : ∃ q, e.op - 1 = q := ⟨_, rfl⟩
  have o1 : 0 ≤ q := by omega
  have o2 : q < 6 := by omega
  have ow : IntKind.i64.wrap (e.op - 1) = q := by rw [IntWalk.i64_in _ (by omega)]; exact hq
  have HQ := Lib.hid hq
  clear hq
  clear hx hr hi htab hm hI h9 hj hla hR hte hcell0 hcell0' hxa hra hia hb0 hea z1 z2 z3 z4 P hP hk hg hz hTa htt hss hrb hnl hop
  change Hid (∀ w', Below w.heap.size w w' → ExAt w' B e [.int .i64 e.k, .int .i64 e.op, .string e.nm, .int .i64 e.v.k, .int .i64 e.v.n, .string e.v.s, .slice A1 e.v.l.length c1, .slice (some ad) e.ar.length c2]) at HXX
  rw [h1] at HXX
  show Calls Tryz.prog 26 #[.agg #[.int .i64 e.k, .int .i64 e.op, .string e.nm, .int .i64 e.v.k, .int .i64 e.v.n, .string e.v.s, .slice A1 e.v.l.length c1, .slice (some ad) e.ar.length c2]] w _
  rw [h1]
  clear h1
  go_enter Tryz.func26, Tryz.ntmps26
  go_upto_region 1 with (fail)
  obtain ⟨W, hW⟩ : ∃ W, W = (w.alloc (.cells #[.int .i64 e.k, .int .i64 e.op, .string e.nm, .int .i64 e.v.k, .int .i64 e.v.n, .string e.v.s, .slice A1 e.v.l.length c1, .slice (some ad) 1 c2] 27 (0, 0))) := ⟨_, rfl⟩
  have hbw : Below w.heap.size w W := by rw [hW]; exact ((Below.refl _ w).alloc (Nat.le_refl _) _)
  have B0 : Blk W (w.heap.size) 27 #[.int .i64 e.k, .int .i64 e.op, .string e.nm, .int .i64 e.v.k, .int .i64 e.v.n, .string e.v.s, .slice A1 e.v.l.length c1, .slice (some ad) 1 c2] := by
    rw [hW]
    have := Blk.new w 27 #[.int .i64 e.k, .int .i64 e.op, .string e.nm, .int .i64 e.v.k, .int .i64 e.v.n, .string e.v.s, .slice A1 e.v.l.length c1, .slice (some ad) 1 c2]
    exact this
  have hsz : W.heap.size = w.heap.size + 1 := by rw [hW]; simp
  rw [← hW]
  have ec0 : W.cell? ⟨w.heap.size, 0, none⟩ = some (.int .i64 e.k) := B0.cell 0
  have ec1 : W.cell? ⟨w.heap.size, 1, none⟩ = some (.int .i64 e.op) := B0.cell 1
  have ec2 : W.cell? ⟨w.heap.size, 2, none⟩ = some (.string e.nm) := B0.cell 2
  have ec3 : W.cell? ⟨w.heap.size, 3, none⟩ = some (.int .i64 e.v.k) := B0.cell 3
  have ec4 : W.cell? ⟨w.heap.size, 4, none⟩ = some (.int .i64 e.v.n) := B0.cell 4
  have ec5 : W.cell? ⟨w.heap.size, 5, none⟩ = some (.string e.v.s) := B0.cell 5
  have ec6 : W.cell? ⟨w.heap.size, 6, none⟩ = some (.slice A1 e.v.l.length c1) := B0.cell 6
  have ec7 : W.cell? ⟨w.heap.size, 7, none⟩ = some (.slice (some ad) 1 c2) := B0.cell 7
  have gc0 : W.cell? ad = some (.int .i64 a.k) := Below.cell_of hbw fc0
  have gc1 : W.cell? ⟨ad.block, ad.off + 1, none⟩ = some (.int .i64 a.op) := Below.cell_of hbw fc1
  have gc2 : W.cell? ⟨ad.block, ad.off + 2, none⟩ = some (.string a.nm) := Below.cell_of hbw fc2
  have gc3 : W.cell? ⟨ad.block, ad.off + 3, none⟩ = some (.int .i64 a.v.k) := Below.cell_of hbw fc3
  have gc4 : W.cell? ⟨ad.block, ad.off + 4, none⟩ = some (.int .i64 a.v.n) := Below.cell_of hbw fc4
  have gc5 : W.cell? ⟨ad.block, ad.off + 5, none⟩ = some (.string a.v.s) := Below.cell_of hbw fc5
  have gc6 : W.cell? ⟨ad.block, ad.off + 6, none⟩ = some (.slice A3 a.v.l.length c3) := Below.cell_of hbw fc6
  have gc7 : W.cell? ⟨ad.block, ad.off + 7, none⟩ = some (.slice A4 a.ar.length c4) := Below.cell_of hbw fc7
  clear hW hsz fc0 fc1 fc2 fc3 fc4 fc5 fc6 fc7
  have K1 := Lib.hid (show ∀ w', Below W.heap.size W w' → Calls Tryz.prog 64 #[.string ⟨#[115, 117, 109, 32, 99, 111, 117, 110, 116, 32, 97, 110, 121, 32, 97, 108, 108, 32, 108, 101, 97, 115, 116, 32, 109, 111, 115, 116]⟩] w' fun en w'' => ∃ b o, en = .returned (.slice (some ⟨b, o, none⟩) 6 6) ∧ w''.cell? ⟨b, o + q.toNat, none⟩ = some (.string s) ∧ Below W.heap.size W w'' ∧ Below w'.heap.size w' w'' from fun w' hb =>
    (rovers_call e.op HOP.out.1 HOP.out.2 w' (HTM.out w' (hbw.trans (hb.mono hbw.size))).2.2).mono fun _ w'' ⟨b, o, he, hc, hk⟩ => ⟨b, o, he, by rw [HQ.out, HSS.out] at hc; exact hc, hb.trans (hk.mono hb.size), hk⟩)
  have K2 := Lib.hid (show ∀ w', Below W.heap.size W w' → Calls Tryz.prog 26 #[.agg #[.int .i64 a.k, .int .i64 a.op, .string a.nm, .int .i64 a.v.k, .int .i64 a.v.n, .string a.v.s, .slice A3 a.v.l.length c3, .slice A4 a.ar.length c4]] w' fun en w'' => en = .returned (.string t) ∧ Below W.heap.size W w'' ∧ Below w'.heap.size w' w'' from fun w' hb => by
    have hbb := hbw.trans (hb.mono hbw.size)
    have h := HTA.out B _ w' (HCI.out.keep (hbb.mono hB)) (Nat.le_trans hB hbb.size) (HTM.out w' hbb).1 (HTM.out w' hbb).2
    rw [HTT.out] at h
    exact h.mono fun _ _ ⟨he, hk⟩ => ⟨he, hb.trans (hk.mono hb.size), hk⟩)
  have HS := Lib.hid (show ∀ w', Below W.heap.size W w' → w'.cell? ⟨w.heap.size, 1, none⟩ = some (.int .i64 e.op) ∧ w'.cell? ⟨w.heap.size, 2, none⟩ = some (.string e.nm) ∧ w'.cell? ⟨w.heap.size, 7, none⟩ = some (.slice (some ad) 1 c2) ∧ w'.cell? ad = some (.int .i64 a.k) ∧ w'.cell? ⟨ad.block, ad.off + 1, none⟩ = some (.int .i64 a.op) ∧ w'.cell? ⟨ad.block, ad.off + 2, none⟩ = some (.string a.nm) ∧ w'.cell? ⟨ad.block, ad.off + 3, none⟩ = some (.int .i64 a.v.k) ∧ w'.cell? ⟨ad.block, ad.off + 4, none⟩ = some (.int .i64 a.v.n) ∧ w'.cell? ⟨ad.block, ad.off + 5, none⟩ = some (.string a.v.s) ∧ w'.cell? ⟨ad.block, ad.off + 6, none⟩ = some (.slice A3 a.v.l.length c3) ∧ w'.cell? ⟨ad.block, ad.off + 7, none⟩ = some (.slice A4 a.ar.length c4) ∧ Below W.heap.size W w' from fun w' hb => ⟨Below.cell_of hb ec1, Below.cell_of hb ec2, Below.cell_of hb ec7, Below.cell_of hb gc0, Below.cell_of hb gc1, Below.cell_of hb gc2, Below.cell_of hb gc3, Below.cell_of hb gc4, Below.cell_of hb gc5, Below.cell_of hb gc6, Below.cell_of hb gc7, hb⟩)
  have hq0 : Below W.heap.size W W := Below.refl _ _
  clear B0
  go_upto_region 10 with (fail)
  refine wp_region_noPanic ?_
  refine wp_region_held_drew (S := (fun w' => w'.cell? ⟨w.heap.size, 1, none⟩ = some (.int .i64 e.op) ∧ w'.cell? ⟨w.heap.size, 2, none⟩ = some (.string e.nm) ∧ w'.cell? ⟨w.heap.size, 7, none⟩ = some (.slice (some ad) 1 c2) ∧ w'.cell? ad = some (.int .i64 a.k) ∧ w'.cell? ⟨ad.block, ad.off + 1, none⟩ = some (.int .i64 a.op) ∧ w'.cell? ⟨ad.block, ad.off + 2, none⟩ = some (.string a.nm) ∧ w'.cell? ⟨ad.block, ad.off + 3, none⟩ = some (.int .i64 a.v.k) ∧ w'.cell? ⟨ad.block, ad.off + 4, none⟩ = some (.int .i64 a.v.n) ∧ w'.cell? ⟨ad.block, ad.off + 5, none⟩ = some (.string a.v.s) ∧ w'.cell? ⟨ad.block, ad.off + 6, none⟩ = some (.slice A3 a.v.l.length c3) ∧ w'.cell? ⟨ad.block, ad.off + 7, none⟩ = some (.slice A4 a.ar.length c4) ∧ Below W.heap.size W w')) (by kernel_rfl) ?_ (fun hHeld => ?_)
  · ((try dsimp only); (first | exact HS.out _ hq0.drew | exact HS.out _ hq0 | exact HS.out _ hq1 | exact HS.out _ hq3 | exact HS.out _ hqe))
  refine wpAnyH_take (i := 1) (v := ?v1) rfl (by kernel_rfl) (by kernel_rfl) (by kernel_rfl) (fun _ _ _ h => h) (Or.inl ⟨by rfl, ?y1⟩) (by assumption) ?r1
  case y1 => (intro w hSw; (try dsimp only at hSw); go_simp; try with_reducible rfl)
  try simp only [List.getElem_toArray, List.getElem_cons_succ, List.getElem_cons_zero, Act.put, List.setIfInBounds_toArray, List.set_cons_zero, List.set_cons_succ]
  refine wpAnyH_take (i := 2) (v := ?v2) rfl (by kernel_rfl) (by kernel_rfl) (by kernel_rfl) (fun _ _ _ h => h) (Or.inl ⟨by rfl, ?y2⟩) (by assumption) ?r2
  case y2 => (intro w hSw; (try dsimp only at hSw); go_simp; try with_reducible rfl)
  try simp only [List.getElem_toArray, List.getElem_cons_succ, List.getElem_cons_zero, Act.put, List.setIfInBounds_toArray, List.set_cons_zero, List.set_cons_succ]
  refine wpAnyH_take (i := 3) (v := ?v3) rfl (by kernel_rfl) (by kernel_rfl) (by kernel_rfl) (fun _ _ _ h => h) (Or.inl ⟨by rfl, ?y3⟩) (by assumption) ?r3
  case y3 => (intro w hSw; (try dsimp only at hSw); go_simp; try with_reducible rfl)
  try simp only [List.getElem_toArray, List.getElem_cons_succ, List.getElem_cons_zero, Act.put, List.setIfInBounds_toArray, List.set_cons_zero, List.set_cons_succ]
  refine wpAnyH_take (i := 7) (v := ?v4) rfl (by kernel_rfl) (by kernel_rfl) (by kernel_rfl) (fun _ _ _ h => h) (Or.inl ⟨by rfl, ?y4⟩) (by assumption) ?r4
  case y4 => (intro w hSw; (try dsimp only at hSw); go_simp; try with_reducible rfl)
  try simp only [List.getElem_toArray, List.getElem_cons_succ, List.getElem_cons_zero, Act.put, List.setIfInBounds_toArray, List.set_cons_zero, List.set_cons_succ]
  refine wpAnyH_take (i := 8) (v := ?v5) rfl (by kernel_rfl) (by kernel_rfl) (by kernel_rfl) (fun _ _ _ h => h) (Or.inl ⟨by rfl, ?y5⟩) (by assumption) ?r5
  case y5 => (intro w hSw; (try dsimp only at hSw); go_simp; try with_reducible rfl)
  try simp only [List.getElem_toArray, List.getElem_cons_succ, List.getElem_cons_zero, Act.put, List.setIfInBounds_toArray, List.set_cons_zero, List.set_cons_succ]
  refine wpAnyH_take (i := 11) (v := ?v6) rfl (by kernel_rfl) (by kernel_rfl) (by kernel_rfl) (fun _ _ _ h => h) (Or.inl ⟨by rfl, ?y6⟩) (by assumption) ?r6
  case y6 => (intro w hSw; (try dsimp only at hSw); go_simp; try with_reducible rfl)
  try simp only [List.getElem_toArray, List.getElem_cons_succ, List.getElem_cons_zero, Act.put, List.setIfInBounds_toArray, List.set_cons_zero, List.set_cons_succ]
  refine wpAnyH_take (i := 12) (v := ?v7) rfl (by kernel_rfl) (by kernel_rfl) (by kernel_rfl) (fun _ _ _ h => h) (Or.inl ⟨by rfl, ?y7⟩) (by assumption) ?r7
  case y7 => (intro w hSw; (try dsimp only at hSw); go_simp; try with_reducible rfl)
  try simp only [List.getElem_toArray, List.getElem_cons_succ, List.getElem_cons_zero, Act.put, List.setIfInBounds_toArray, List.set_cons_zero, List.set_cons_succ]
  refine wpAnyH_take (i := 13) (v := ?v8) rfl (by kernel_rfl) (by kernel_rfl) (by kernel_rfl) (fun _ _ _ h => h) (Or.inl ⟨by rfl, ?y8⟩) (by assumption) ?r8
  case y8 => (intro w hSw; (try dsimp only at hSw); go_simp; try with_reducible rfl)
  try simp only [List.getElem_toArray, List.getElem_cons_succ, List.getElem_cons_zero, Act.put, List.setIfInBounds_toArray, List.set_cons_zero, List.set_cons_succ]
  refine wpAnyH_take (i := 14) (v := ?v9) rfl (by kernel_rfl) (by kernel_rfl) (by kernel_rfl) (fun _ _ _ h => h) (Or.inl ⟨by rfl, ?y9⟩) (by assumption) ?r9
  case y9 => (intro w hSw; (try dsimp only at hSw); go_simp; try with_reducible rfl)
  try simp only [List.getElem_toArray, List.getElem_cons_succ, List.getElem_cons_zero, Act.put, List.setIfInBounds_toArray, List.set_cons_zero, List.set_cons_succ]
  refine wpAnyH_ready (rs := [0]) (by kernel_rfl) (by simp) ?_
  refine AllReadyH.cons rfl (fun K hK => ?_) ?_
  · go_simp
    (first | (go_at_call 64; (with_reducible refine (K1.out _ hq0.drew).mono ?_); rintro e1 w1 ⟨b, o, rfl, hoc, hq1, hk1'⟩) | (go_at_call 64; (with_reducible refine (K1.out _ hq3).mono ?_); rintro e1 w1 ⟨b, o, rfl, hoc, hqe, hk1'⟩) | (go_at_call 26; (with_reducible refine (K2.out _ hq0.drew).mono ?_); rintro e3 w3 ⟨rfl, hq3, hk3'⟩) | (go_at_call 26; (with_reducible refine (K2.out _ hq1).mono ?_); rintro e3 w3 ⟨rfl, hqe, hk3'⟩; have hoc3 := Below.cell_of hk3' hoc))
    try go_wp2_with fail
    refine hK.out _ _ ?_ (fun hHeld => ?_)
    · ((try dsimp only); (first | exact HS.out _ hq0.drew | exact HS.out _ hq0 | exact HS.out _ hq1 | exact HS.out _ hq3 | exact HS.out _ hqe))
    clear hK K
    try simp only [List.getElem_toArray, List.getElem_cons_succ, List.getElem_cons_zero, Act.put, List.setIfInBounds_toArray, List.set_cons_zero, List.set_cons_succ]
    refine wpAnyH_take (i := 4) (v := ?v10) rfl (by kernel_rfl) (by kernel_rfl) (by kernel_rfl) (fun _ _ _ h => h) (Or.inl ⟨by rfl, ?y10⟩) (by assumption) ?r10
    case y10 => (intro w hSw; (try dsimp only at hSw); go_simp; try with_reducible rfl)
    try simp only [List.getElem_toArray, List.getElem_cons_succ, List.getElem_cons_zero, Act.put, List.setIfInBounds_toArray, List.set_cons_zero, List.set_cons_succ]
    refine wpAnyH_ready (rs := [5, 15]) (by kernel_rfl) (by simp) ?_
    refine AllReadyH.cons rfl (fun K hK => ?_) ?_
    · go_simp
      try go_wp2_with fail
      refine hK.out _ _ ?_ (fun hHeld => ?_)
      · ((try dsimp only); (first | exact HS.out _ hq0.drew | exact HS.out _ hq0 | exact HS.out _ hq1 | exact HS.out _ hq3 | exact HS.out _ hqe))
      clear hK K
      try simp only [List.getElem_toArray, List.getElem_cons_succ, List.getElem_cons_zero, Act.put, List.setIfInBounds_toArray, List.set_cons_zero, List.set_cons_succ]
      refine wpAnyH_ready (rs := [6, 15]) (by kernel_rfl) (by simp) ?_
      refine AllReadyH.cons rfl (fun K hK => ?_) ?_
      · go_simp
        try go_wp2_with fail
        refine hK.out _ _ ?_ (fun hHeld => ?_)
        · ((try dsimp only); (first | exact HS.out _ hq0.drew | exact HS.out _ hq0 | exact HS.out _ hq1 | exact HS.out _ hq3 | exact HS.out _ hqe))
        clear hK K
        try simp only [List.getElem_toArray, List.getElem_cons_succ, List.getElem_cons_zero, Act.put, List.setIfInBounds_toArray, List.set_cons_zero, List.set_cons_succ]
        refine wpAnyH_ready (rs := [9, 15]) (by kernel_rfl) (by simp) ?_
        refine AllReadyH.cons rfl (fun K hK => ?_) ?_
        · go_simp
          try go_wp2_with fail
          refine hK.out _ _ ?_ (fun hHeld => ?_)
          · ((try dsimp only); (first | exact HS.out _ hq0.drew | exact HS.out _ hq0 | exact HS.out _ hq1 | exact HS.out _ hq3 | exact HS.out _ hqe))
          clear hK K
          try simp only [List.getElem_toArray, List.getElem_cons_succ, List.getElem_cons_zero, Act.put, List.setIfInBounds_toArray, List.set_cons_zero, List.set_cons_succ]
          refine wpAnyH_ready (rs := [10, 15]) (by kernel_rfl) (by simp) ?_
          refine AllReadyH.cons rfl (fun K hK => ?_) ?_
          · go_simp
            try go_wp2_with fail
            refine hK.out _ _ ?_ (fun hHeld => ?_)
            · ((try dsimp only); (first | exact HS.out _ hq0.drew | exact HS.out _ hq0 | exact HS.out _ hq1 | exact HS.out _ hq3 | exact HS.out _ hqe))
            clear hK K
            try simp only [List.getElem_toArray, List.getElem_cons_succ, List.getElem_cons_zero, Act.put, List.setIfInBounds_toArray, List.set_cons_zero, List.set_cons_succ]
            refine wpAnyH_ready (rs := [15]) (by kernel_rfl) (by simp) ?_
            refine AllReadyH.cons rfl (fun K hK => ?_) ?_
            · go_simp
              (first | (go_at_call 64; (with_reducible refine (K1.out _ hq0.drew).mono ?_); rintro e1 w1 ⟨b, o, rfl, hoc, hq1, hk1'⟩) | (go_at_call 64; (with_reducible refine (K1.out _ hq3).mono ?_); rintro e1 w1 ⟨b, o, rfl, hoc, hqe, hk1'⟩) | (go_at_call 26; (with_reducible refine (K2.out _ hq0.drew).mono ?_); rintro e3 w3 ⟨rfl, hq3, hk3'⟩) | (go_at_call 26; (with_reducible refine (K2.out _ hq1).mono ?_); rintro e3 w3 ⟨rfl, hqe, hk3'⟩; have hoc3 := Below.cell_of hk3' hoc))
              try go_wp2_with fail
              refine hK.out _ _ ?_ (fun hHeld => ?_)
              · ((try dsimp only); (first | exact HS.out _ hq0.drew | exact HS.out _ hq0 | exact HS.out _ hq1 | exact HS.out _ hq3 | exact HS.out _ hqe))
              clear hK K
              try simp only [List.getElem_toArray, List.getElem_cons_succ, List.getElem_cons_zero, Act.put, List.setIfInBounds_toArray, List.set_cons_zero, List.set_cons_succ]
              refine wpAnyH_ready (rs := [16]) (by kernel_rfl) (by simp) ?_
              refine AllReadyH.cons rfl (fun K hK => ?_) ?_
              · go_simp
                try go_wp2_with fail
                refine hK.out _ _ ?_ (fun hHeld => ?_)
                · ((try dsimp only); (first | exact HS.out _ hq0.drew | exact HS.out _ hq0 | exact HS.out _ hq1 | exact HS.out _ hq3 | exact HS.out _ hqe))
                clear hK K
                try simp only [List.getElem_toArray, List.getElem_cons_succ, List.getElem_cons_zero, Act.put, List.setIfInBounds_toArray, List.set_cons_zero, List.set_cons_succ]
                refine wpAnyH_ready (rs := [17]) (by kernel_rfl) (by simp) ?_
                refine AllReadyH.cons rfl (fun K hK => ?_) ?_
                · go_simp
                  try go_wp2_with fail
                  refine hK.out _ _ ?_ (fun hHeld => ?_)
                  · ((try dsimp only); (first | exact HS.out _ hq0.drew | exact HS.out _ hq0 | exact HS.out _ hq1 | exact HS.out _ hq3 | exact HS.out _ hqe))
                  clear hK K
                  try simp only [List.getElem_toArray, List.getElem_cons_succ, List.getElem_cons_zero, Act.put, List.setIfInBounds_toArray, List.set_cons_zero, List.set_cons_succ]
                  refine wpAnyH_take (i := 18) (v := ?v11) rfl (by kernel_rfl) (by kernel_rfl) (by kernel_rfl) (fun _ _ _ h => h) (Or.inl ⟨by rfl, ?y11⟩) (by assumption) ?r11
                  case y11 => (intro w hSw; (try dsimp only at hSw); go_simp; try with_reducible rfl)
                  try simp only [List.getElem_toArray, List.getElem_cons_succ, List.getElem_cons_zero, Act.put, List.setIfInBounds_toArray, List.set_cons_zero, List.set_cons_succ]
                  refine wpAnyH_done (by kernel_rfl) ?_ _
                  refine NoPanic.normal ?_
                  have hbwz := hbw.trans (hqe.mono hbw.size)
                  clear HS K1 K2
                  go_wp2_with fail
                  go_ret
                  exact ⟨by rw [HR.out]; try rfl, hbwz⟩
                exact AllReadyH.nil
              exact AllReadyH.nil
            exact AllReadyH.nil
          refine AllReadyH.cons rfl (fun K hK => ?_) ?_
          · go_simp
            (first | (go_at_call 64; (with_reducible refine (K1.out _ hq0.drew).mono ?_); rintro e1 w1 ⟨b, o, rfl, hoc, hq1, hk1'⟩) | (go_at_call 64; (with_reducible refine (K1.out _ hq3).mono ?_); rintro e1 w1 ⟨b, o, rfl, hoc, hqe, hk1'⟩) | (go_at_call 26; (with_reducible refine (K2.out _ hq0.drew).mono ?_); rintro e3 w3 ⟨rfl, hq3, hk3'⟩) | (go_at_call 26; (with_reducible refine (K2.out _ hq1).mono ?_); rintro e3 w3 ⟨rfl, hqe, hk3'⟩; have hoc3 := Below.cell_of hk3' hoc))
            try go_wp2_with fail
            refine hK.out _ _ ?_ (fun hHeld => ?_)
            · ((try dsimp only); (first | exact HS.out _ hq0.drew | exact HS.out _ hq0 | exact HS.out _ hq1 | exact HS.out _ hq3 | exact HS.out _ hqe))
            clear hK K
            try simp only [List.getElem_toArray, List.getElem_cons_succ, List.getElem_cons_zero, Act.put, List.setIfInBounds_toArray, List.set_cons_zero, List.set_cons_succ]
            refine wpAnyH_ready (rs := [10]) (by kernel_rfl) (by simp) ?_
            refine AllReadyH.cons rfl (fun K hK => ?_) ?_
            · go_simp
              try go_wp2_with fail
              refine hK.out _ _ ?_ (fun hHeld => ?_)
              · ((try dsimp only); (first | exact HS.out _ hq0.drew | exact HS.out _ hq0 | exact HS.out _ hq1 | exact HS.out _ hq3 | exact HS.out _ hqe))
              clear hK K
              try simp only [List.getElem_toArray, List.getElem_cons_succ, List.getElem_cons_zero, Act.put, List.setIfInBounds_toArray, List.set_cons_zero, List.set_cons_succ]
              refine wpAnyH_ready (rs := [16]) (by kernel_rfl) (by simp) ?_
              refine AllReadyH.cons rfl (fun K hK => ?_) ?_
              · go_simp
                try go_wp2_with fail
                refine hK.out _ _ ?_ (fun hHeld => ?_)
                · ((try dsimp only); (first | exact HS.out _ hq0.drew | exact HS.out _ hq0 | exact HS.out _ hq1 | exact HS.out _ hq3 | exact HS.out _ hqe))
                clear hK K
                try simp only [List.getElem_toArray, List.getElem_cons_succ, List.getElem_cons_zero, Act.put, List.setIfInBounds_toArray, List.set_cons_zero, List.set_cons_succ]
                refine wpAnyH_ready (rs := [17]) (by kernel_rfl) (by simp) ?_
                refine AllReadyH.cons rfl (fun K hK => ?_) ?_
                · go_simp
                  try go_wp2_with fail
                  refine hK.out _ _ ?_ (fun hHeld => ?_)
                  · ((try dsimp only); (first | exact HS.out _ hq0.drew | exact HS.out _ hq0 | exact HS.out _ hq1 | exact HS.out _ hq3 | exact HS.out _ hqe))
                  clear hK K
                  try simp only [List.getElem_toArray, List.getElem_cons_succ, List.getElem_cons_zero, Act.put, List.setIfInBounds_toArray, List.set_cons_zero, List.set_cons_succ]
                  refine wpAnyH_take (i := 18) (v := ?v12) rfl (by kernel_rfl) (by kernel_rfl) (by kernel_rfl) (fun _ _ _ h => h) (Or.inl ⟨by rfl, ?y12⟩) (by assumption) ?r12
                  case y12 => (intro w hSw; (try dsimp only at hSw); go_simp; try with_reducible rfl)
                  try simp only [List.getElem_toArray, List.getElem_cons_succ, List.getElem_cons_zero, Act.put, List.setIfInBounds_toArray, List.set_cons_zero, List.set_cons_succ]
                  refine wpAnyH_done (by kernel_rfl) ?_ _
                  refine NoPanic.normal ?_
                  have hbwz := hbw.trans (hqe.mono hbw.size)
                  clear HS K1 K2
                  go_wp2_with fail
                  go_ret
                  exact ⟨by rw [HR.out]; try rfl, hbwz⟩
                exact AllReadyH.nil
              exact AllReadyH.nil
            exact AllReadyH.nil
          exact AllReadyH.nil
        refine AllReadyH.cons rfl (fun K hK => ?_) ?_
        · go_simp
          (first | (go_at_call 64; (with_reducible refine (K1.out _ hq0.drew).mono ?_); rintro e1 w1 ⟨b, o, rfl, hoc, hq1, hk1'⟩) | (go_at_call 64; (with_reducible refine (K1.out _ hq3).mono ?_); rintro e1 w1 ⟨b, o, rfl, hoc, hqe, hk1'⟩) | (go_at_call 26; (with_reducible refine (K2.out _ hq0.drew).mono ?_); rintro e3 w3 ⟨rfl, hq3, hk3'⟩) | (go_at_call 26; (with_reducible refine (K2.out _ hq1).mono ?_); rintro e3 w3 ⟨rfl, hqe, hk3'⟩; have hoc3 := Below.cell_of hk3' hoc))
          try go_wp2_with fail
          refine hK.out _ _ ?_ (fun hHeld => ?_)
          · ((try dsimp only); (first | exact HS.out _ hq0.drew | exact HS.out _ hq0 | exact HS.out _ hq1 | exact HS.out _ hq3 | exact HS.out _ hqe))
          clear hK K
          try simp only [List.getElem_toArray, List.getElem_cons_succ, List.getElem_cons_zero, Act.put, List.setIfInBounds_toArray, List.set_cons_zero, List.set_cons_succ]
          refine wpAnyH_ready (rs := [9]) (by kernel_rfl) (by simp) ?_
          refine AllReadyH.cons rfl (fun K hK => ?_) ?_
          · go_simp
            try go_wp2_with fail
            refine hK.out _ _ ?_ (fun hHeld => ?_)
            · ((try dsimp only); (first | exact HS.out _ hq0.drew | exact HS.out _ hq0 | exact HS.out _ hq1 | exact HS.out _ hq3 | exact HS.out _ hqe))
            clear hK K
            try simp only [List.getElem_toArray, List.getElem_cons_succ, List.getElem_cons_zero, Act.put, List.setIfInBounds_toArray, List.set_cons_zero, List.set_cons_succ]
            refine wpAnyH_ready (rs := [10]) (by kernel_rfl) (by simp) ?_
            refine AllReadyH.cons rfl (fun K hK => ?_) ?_
            · go_simp
              try go_wp2_with fail
              refine hK.out _ _ ?_ (fun hHeld => ?_)
              · ((try dsimp only); (first | exact HS.out _ hq0.drew | exact HS.out _ hq0 | exact HS.out _ hq1 | exact HS.out _ hq3 | exact HS.out _ hqe))
              clear hK K
              try simp only [List.getElem_toArray, List.getElem_cons_succ, List.getElem_cons_zero, Act.put, List.setIfInBounds_toArray, List.set_cons_zero, List.set_cons_succ]
              refine wpAnyH_ready (rs := [16]) (by kernel_rfl) (by simp) ?_
              refine AllReadyH.cons rfl (fun K hK => ?_) ?_
              · go_simp
                try go_wp2_with fail
                refine hK.out _ _ ?_ (fun hHeld => ?_)
                · ((try dsimp only); (first | exact HS.out _ hq0.drew | exact HS.out _ hq0 | exact HS.out _ hq1 | exact HS.out _ hq3 | exact HS.out _ hqe))
                clear hK K
                try simp only [List.getElem_toArray, List.getElem_cons_succ, List.getElem_cons_zero, Act.put, List.setIfInBounds_toArray, List.set_cons_zero, List.set_cons_succ]
                refine wpAnyH_ready (rs := [17]) (by kernel_rfl) (by simp) ?_
                refine AllReadyH.cons rfl (fun K hK => ?_) ?_
                · go_simp
                  try go_wp2_with fail
                  refine hK.out _ _ ?_ (fun hHeld => ?_)
                  · ((try dsimp only); (first | exact HS.out _ hq0.drew | exact HS.out _ hq0 | exact HS.out _ hq1 | exact HS.out _ hq3 | exact HS.out _ hqe))
                  clear hK K
                  try simp only [List.getElem_toArray, List.getElem_cons_succ, List.getElem_cons_zero, Act.put, List.setIfInBounds_toArray, List.set_cons_zero, List.set_cons_succ]
                  refine wpAnyH_take (i := 18) (v := ?v13) rfl (by kernel_rfl) (by kernel_rfl) (by kernel_rfl) (fun _ _ _ h => h) (Or.inl ⟨by rfl, ?y13⟩) (by assumption) ?r13
                  case y13 => (intro w hSw; (try dsimp only at hSw); go_simp; try with_reducible rfl)
                  try simp only [List.getElem_toArray, List.getElem_cons_succ, List.getElem_cons_zero, Act.put, List.setIfInBounds_toArray, List.set_cons_zero, List.set_cons_succ]
                  refine wpAnyH_done (by kernel_rfl) ?_ _
                  refine NoPanic.normal ?_
                  have hbwz := hbw.trans (hqe.mono hbw.size)
                  clear HS K1 K2
                  go_wp2_with fail
                  go_ret
                  exact ⟨by rw [HR.out]; try rfl, hbwz⟩
                exact AllReadyH.nil
              exact AllReadyH.nil
            exact AllReadyH.nil
          exact AllReadyH.nil
        exact AllReadyH.nil
      refine AllReadyH.cons rfl (fun K hK => ?_) ?_
      · go_simp
        (first | (go_at_call 64; (with_reducible refine (K1.out _ hq0.drew).mono ?_); rintro e1 w1 ⟨b, o, rfl, hoc, hq1, hk1'⟩) | (go_at_call 64; (with_reducible refine (K1.out _ hq3).mono ?_); rintro e1 w1 ⟨b, o, rfl, hoc, hqe, hk1'⟩) | (go_at_call 26; (with_reducible refine (K2.out _ hq0.drew).mono ?_); rintro e3 w3 ⟨rfl, hq3, hk3'⟩) | (go_at_call 26; (with_reducible refine (K2.out _ hq1).mono ?_); rintro e3 w3 ⟨rfl, hqe, hk3'⟩; have hoc3 := Below.cell_of hk3' hoc))
        try go_wp2_with fail
        refine hK.out _ _ ?_ (fun hHeld => ?_)
        · ((try dsimp only); (first | exact HS.out _ hq0.drew | exact HS.out _ hq0 | exact HS.out _ hq1 | exact HS.out _ hq3 | exact HS.out _ hqe))
        clear hK K
        try simp only [List.getElem_toArray, List.getElem_cons_succ, List.getElem_cons_zero, Act.put, List.setIfInBounds_toArray, List.set_cons_zero, List.set_cons_succ]
        refine wpAnyH_ready (rs := [6]) (by kernel_rfl) (by simp) ?_
        refine AllReadyH.cons rfl (fun K hK => ?_) ?_
        · go_simp
          try go_wp2_with fail
          refine hK.out _ _ ?_ (fun hHeld => ?_)
          · ((try dsimp only); (first | exact HS.out _ hq0.drew | exact HS.out _ hq0 | exact HS.out _ hq1 | exact HS.out _ hq3 | exact HS.out _ hqe))
          clear hK K
          try simp only [List.getElem_toArray, List.getElem_cons_succ, List.getElem_cons_zero, Act.put, List.setIfInBounds_toArray, List.set_cons_zero, List.set_cons_succ]
          refine wpAnyH_ready (rs := [9]) (by kernel_rfl) (by simp) ?_
          refine AllReadyH.cons rfl (fun K hK => ?_) ?_
          · go_simp
            try go_wp2_with fail
            refine hK.out _ _ ?_ (fun hHeld => ?_)
            · ((try dsimp only); (first | exact HS.out _ hq0.drew | exact HS.out _ hq0 | exact HS.out _ hq1 | exact HS.out _ hq3 | exact HS.out _ hqe))
            clear hK K
            try simp only [List.getElem_toArray, List.getElem_cons_succ, List.getElem_cons_zero, Act.put, List.setIfInBounds_toArray, List.set_cons_zero, List.set_cons_succ]
            refine wpAnyH_ready (rs := [10]) (by kernel_rfl) (by simp) ?_
            refine AllReadyH.cons rfl (fun K hK => ?_) ?_
            · go_simp
              try go_wp2_with fail
              refine hK.out _ _ ?_ (fun hHeld => ?_)
              · ((try dsimp only); (first | exact HS.out _ hq0.drew | exact HS.out _ hq0 | exact HS.out _ hq1 | exact HS.out _ hq3 | exact HS.out _ hqe))
              clear hK K
              try simp only [List.getElem_toArray, List.getElem_cons_succ, List.getElem_cons_zero, Act.put, List.setIfInBounds_toArray, List.set_cons_zero, List.set_cons_succ]
              refine wpAnyH_ready (rs := [16]) (by kernel_rfl) (by simp) ?_
              refine AllReadyH.cons rfl (fun K hK => ?_) ?_
              · go_simp
                try go_wp2_with fail
                refine hK.out _ _ ?_ (fun hHeld => ?_)
                · ((try dsimp only); (first | exact HS.out _ hq0.drew | exact HS.out _ hq0 | exact HS.out _ hq1 | exact HS.out _ hq3 | exact HS.out _ hqe))
                clear hK K
                try simp only [List.getElem_toArray, List.getElem_cons_succ, List.getElem_cons_zero, Act.put, List.setIfInBounds_toArray, List.set_cons_zero, List.set_cons_succ]
                refine wpAnyH_ready (rs := [17]) (by kernel_rfl) (by simp) ?_
                refine AllReadyH.cons rfl (fun K hK => ?_) ?_
                · go_simp
                  try go_wp2_with fail
                  refine hK.out _ _ ?_ (fun hHeld => ?_)
                  · ((try dsimp only); (first | exact HS.out _ hq0.drew | exact HS.out _ hq0 | exact HS.out _ hq1 | exact HS.out _ hq3 | exact HS.out _ hqe))
                  clear hK K
                  try simp only [List.getElem_toArray, List.getElem_cons_succ, List.getElem_cons_zero, Act.put, List.setIfInBounds_toArray, List.set_cons_zero, List.set_cons_succ]
                  refine wpAnyH_take (i := 18) (v := ?v14) rfl (by kernel_rfl) (by kernel_rfl) (by kernel_rfl) (fun _ _ _ h => h) (Or.inl ⟨by rfl, ?y14⟩) (by assumption) ?r14
                  case y14 => (intro w hSw; (try dsimp only at hSw); go_simp; try with_reducible rfl)
                  try simp only [List.getElem_toArray, List.getElem_cons_succ, List.getElem_cons_zero, Act.put, List.setIfInBounds_toArray, List.set_cons_zero, List.set_cons_succ]
                  refine wpAnyH_done (by kernel_rfl) ?_ _
                  refine NoPanic.normal ?_
                  have hbwz := hbw.trans (hqe.mono hbw.size)
                  clear HS K1 K2
                  go_wp2_with fail
                  go_ret
                  exact ⟨by rw [HR.out]; try rfl, hbwz⟩
                exact AllReadyH.nil
              exact AllReadyH.nil
            exact AllReadyH.nil
          exact AllReadyH.nil
        exact AllReadyH.nil
      exact AllReadyH.nil
    refine AllReadyH.cons rfl (fun K hK => ?_) ?_
    · go_simp
      (first | (go_at_call 64; (with_reducible refine (K1.out _ hq0.drew).mono ?_); rintro e1 w1 ⟨b, o, rfl, hoc, hq1, hk1'⟩) | (go_at_call 64; (with_reducible refine (K1.out _ hq3).mono ?_); rintro e1 w1 ⟨b, o, rfl, hoc, hqe, hk1'⟩) | (go_at_call 26; (with_reducible refine (K2.out _ hq0.drew).mono ?_); rintro e3 w3 ⟨rfl, hq3, hk3'⟩) | (go_at_call 26; (with_reducible refine (K2.out _ hq1).mono ?_); rintro e3 w3 ⟨rfl, hqe, hk3'⟩; have hoc3 := Below.cell_of hk3' hoc))
      try go_wp2_with fail
      refine hK.out _ _ ?_ (fun hHeld => ?_)
      · ((try dsimp only); (first | exact HS.out _ hq0.drew | exact HS.out _ hq0 | exact HS.out _ hq1 | exact HS.out _ hq3 | exact HS.out _ hqe))
      clear hK K
      try simp only [List.getElem_toArray, List.getElem_cons_succ, List.getElem_cons_zero, Act.put, List.setIfInBounds_toArray, List.set_cons_zero, List.set_cons_succ]
      refine wpAnyH_ready (rs := [5]) (by kernel_rfl) (by simp) ?_
      refine AllReadyH.cons rfl (fun K hK => ?_) ?_
      · go_simp
        try go_wp2_with fail
        refine hK.out _ _ ?_ (fun hHeld => ?_)
        · ((try dsimp only); (first | exact HS.out _ hq0.drew | exact HS.out _ hq0 | exact HS.out _ hq1 | exact HS.out _ hq3 | exact HS.out _ hqe))
        clear hK K
        try simp only [List.getElem_toArray, List.getElem_cons_succ, List.getElem_cons_zero, Act.put, List.setIfInBounds_toArray, List.set_cons_zero, List.set_cons_succ]
        refine wpAnyH_ready (rs := [6]) (by kernel_rfl) (by simp) ?_
        refine AllReadyH.cons rfl (fun K hK => ?_) ?_
        · go_simp
          try go_wp2_with fail
          refine hK.out _ _ ?_ (fun hHeld => ?_)
          · ((try dsimp only); (first | exact HS.out _ hq0.drew | exact HS.out _ hq0 | exact HS.out _ hq1 | exact HS.out _ hq3 | exact HS.out _ hqe))
          clear hK K
          try simp only [List.getElem_toArray, List.getElem_cons_succ, List.getElem_cons_zero, Act.put, List.setIfInBounds_toArray, List.set_cons_zero, List.set_cons_succ]
          refine wpAnyH_ready (rs := [9]) (by kernel_rfl) (by simp) ?_
          refine AllReadyH.cons rfl (fun K hK => ?_) ?_
          · go_simp
            try go_wp2_with fail
            refine hK.out _ _ ?_ (fun hHeld => ?_)
            · ((try dsimp only); (first | exact HS.out _ hq0.drew | exact HS.out _ hq0 | exact HS.out _ hq1 | exact HS.out _ hq3 | exact HS.out _ hqe))
            clear hK K
            try simp only [List.getElem_toArray, List.getElem_cons_succ, List.getElem_cons_zero, Act.put, List.setIfInBounds_toArray, List.set_cons_zero, List.set_cons_succ]
            refine wpAnyH_ready (rs := [10]) (by kernel_rfl) (by simp) ?_
            refine AllReadyH.cons rfl (fun K hK => ?_) ?_
            · go_simp
              try go_wp2_with fail
              refine hK.out _ _ ?_ (fun hHeld => ?_)
              · ((try dsimp only); (first | exact HS.out _ hq0.drew | exact HS.out _ hq0 | exact HS.out _ hq1 | exact HS.out _ hq3 | exact HS.out _ hqe))
              clear hK K
              try simp only [List.getElem_toArray, List.getElem_cons_succ, List.getElem_cons_zero, Act.put, List.setIfInBounds_toArray, List.set_cons_zero, List.set_cons_succ]
              refine wpAnyH_ready (rs := [16]) (by kernel_rfl) (by simp) ?_
              refine AllReadyH.cons rfl (fun K hK => ?_) ?_
              · go_simp
                try go_wp2_with fail
                refine hK.out _ _ ?_ (fun hHeld => ?_)
                · ((try dsimp only); (first | exact HS.out _ hq0.drew | exact HS.out _ hq0 | exact HS.out _ hq1 | exact HS.out _ hq3 | exact HS.out _ hqe))
                clear hK K
                try simp only [List.getElem_toArray, List.getElem_cons_succ, List.getElem_cons_zero, Act.put, List.setIfInBounds_toArray, List.set_cons_zero, List.set_cons_succ]
                refine wpAnyH_ready (rs := [17]) (by kernel_rfl) (by simp) ?_
                refine AllReadyH.cons rfl (fun K hK => ?_) ?_
                · go_simp
                  try go_wp2_with fail
                  refine hK.out _ _ ?_ (fun hHeld => ?_)
                  · ((try dsimp only); (first | exact HS.out _ hq0.drew | exact HS.out _ hq0 | exact HS.out _ hq1 | exact HS.out _ hq3 | exact HS.out _ hqe))
                  clear hK K
                  try simp only [List.getElem_toArray, List.getElem_cons_succ, List.getElem_cons_zero, Act.put, List.setIfInBounds_toArray, List.set_cons_zero, List.set_cons_succ]
                  refine wpAnyH_take (i := 18) (v := ?v15) rfl (by kernel_rfl) (by kernel_rfl) (by kernel_rfl) (fun _ _ _ h => h) (Or.inl ⟨by rfl, ?y15⟩) (by assumption) ?r15
                  case y15 => (intro w hSw; (try dsimp only at hSw); go_simp; try with_reducible rfl)
                  try simp only [List.getElem_toArray, List.getElem_cons_succ, List.getElem_cons_zero, Act.put, List.setIfInBounds_toArray, List.set_cons_zero, List.set_cons_succ]
                  refine wpAnyH_done (by kernel_rfl) ?_ _
                  refine NoPanic.normal ?_
                  have hbwz := hbw.trans (hqe.mono hbw.size)
                  clear HS K1 K2
                  go_wp2_with fail
                  go_ret
                  exact ⟨by rw [HR.out]; try rfl, hbwz⟩
                exact AllReadyH.nil
              exact AllReadyH.nil
            exact AllReadyH.nil
          exact AllReadyH.nil
        exact AllReadyH.nil
      exact AllReadyH.nil
    exact AllReadyH.nil
  exact AllReadyH.nil
end Go.Proofs.YtcmccjcelchlhaaGreatDoor
