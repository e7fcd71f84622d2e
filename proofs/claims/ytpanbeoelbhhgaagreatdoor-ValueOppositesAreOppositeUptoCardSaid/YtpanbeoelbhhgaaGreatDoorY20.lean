/- What Eval answers; kinds are kept, opposites are opposite. The plain laws. · Values as they lie and as they are handed back. · truth, numeral, isTrue, missing of values. · Numbers: divided, arithmetic, floorDiv, single. · Numbers: floorDiv, single; dayValue. · Days: age, dated. · Rows of values as the walk reads them; dated. -/
import Derived.Test.YtpanbeoelbhhgaaGreatDoorY19
import Derived.Test.YtpanbeoelbhhgaaGreatDoorYSh
namespace Go.Proofs.YtpanbeoelbhhgaaGreatDoor
noncomputable def evFault (S : SceneD) (e : Ex) (at_ : List ByteArray) (row : List Int) : Int :=
  if sceneF S.cells S.loops S.bounds S.rows ≠ 0 then sceneF S.cells S.loops S.bounds S.rows else if checkE e ≠ 0 then checkE e else if nestedF S.loops at_ = false then 9 else
  if (e.kind S.cells S.loops at_).2 ≠ 0 then (e.kind S.cells S.loops at_).2 else rowF row at_.length
def toldV (kind : Int) (v : Val) : Val := if v.k = 0 ∧ kind = 7 then ⟨7, 0, ⟨#[]⟩, []⟩ else v
noncomputable def evalV (S : SceneD) (e : Ex) (at_ : List ByteArray) (row : List Int) : Val := if evFault S e at_ row ≠ 0 then zeroV else toldV (e.kind S.cells S.loops at_).1 (e.val S at_ row)
theorem evFault_parts {S : SceneD} {e : Ex} {at_ : List ByteArray} {row : List Int} (h : evFault S e at_ row = 0) : sceneF S.cells S.loops S.bounds S.rows = 0 ∧ checkE e = 0 ∧ nestedF S.loops at_ = true ∧ (e.kind S.cells S.loops at_).2 = 0 ∧ rowF row at_.length = 0 := by
  unfold evFault at h
  by_cases h1 : sceneF S.cells S.loops S.bounds S.rows = 0
  · rw [if_neg (Decidable.not_not.2 h1)] at h
    by_cases h2 : checkE e = 0
    · rw [if_neg (Decidable.not_not.2 h2)] at h
      by_cases h3 : nestedF S.loops at_ = false
      · rw [if_pos h3] at h; exact absurd h (by decide)
      · rw [if_neg h3] at h
        by_cases h4 : (e.kind S.cells S.loops at_).2 = 0
        · rw [if_neg (Decidable.not_not.2 h4)] at h
          exact ⟨h1, h2, by simpa using h3, h4, h⟩
        · rw [if_pos h4] at h; exact absurd h h4
    · rw [if_pos h2] at h; exact absurd h h2
  · rw [if_pos h1] at h; exact absurd h h1
theorem scene_world {cells : List CellD} {loops : List NestD} {bounds : List BoundD} {rows : List RowD} (h : sceneF cells loops bounds rows = 0) : worldF cells loops = 0 := by
  unfold sceneF at h
  by_cases c0 : worldF cells loops = 0
  · exact c0
  · rw [if_pos c0] at h; exact absurd h c0
/-- KINDS ARE KEPT -/
theorem law_kinds {S : SceneD} {e : Ex} {at_ : List ByteArray} {row : List Int} (h : evFault S e at_ row = 0) :
    typeF e S.cells S.loops at_ = ((e.kind S.cells S.loops at_).1, 0) ∧ checkV (evalV S e at_ row) = 0 ∧ ((evalV S e at_ row).k = (e.kind S.cells S.loops at_).1 ∨ ((evalV S e at_ row).k = 0 ∧ (e.kind S.cells S.loops at_).1 ≠ 7)) := by
  obtain ⟨h1, h2, h3, h4, h5⟩ := evFault_parts h
  refine ⟨?_, ?_⟩
  · unfold typeF
    rw [if_neg (Decidable.not_not.2 h2), if_neg (fun q => q (scene_world h1)), if_neg (by rw [h3]; decide)]
    exact Prod.ext rfl h4
  · have hv := val_ok (scOk_of h1).sceneOk e (checkE_fault h2) at_ row (e.kind S.cells S.loops at_).1 (Prod.ext rfl h4)
    have e0 : evalV S e at_ row = toldV (e.kind S.cells S.loops at_).1 (e.val S at_ row) := by unfold evalV; rw [if_neg (Decidable.not_not.2 h)]
    rw [e0]
    unfold toldV
    rcases hv with hv | ⟨hk, hc⟩
    · rw [hv]
      by_cases h7 : (e.kind S.cells S.loops at_).1 = 7
      · rw [if_pos ⟨rfl, h7⟩]
        exact ⟨chk_bare (by decide) (by decide) (by decide), .inl h7.symm⟩
      · rw [if_neg (fun q => h7 q.2)]
        exact ⟨chk_bare (by decide) (by decide) (by decide), .inr ⟨rfl, h7⟩⟩
    · split
      · rename_i hq
        exact ⟨chk_bare (by decide) (by decide) (by decide), .inl hq.2.symm⟩
      · exact ⟨hc, .inl hk⟩
def opE (op : Int) (l : List Ex) : Ex := .mk 4 op ⟨#[]⟩ zeroV l
abbrev eL (a b : Ex) : Ex := opE 1 [opE 2 [a, b]]
end Go.Proofs.YtpanbeoelbhhgaaGreatDoor
namespace Go.Proofs.YtpanbeoelbhhgaaGreatDoor
open Go.RowKit
def vz (v : Val) : Value := .agg #[.int .i64 v.k, .int .i64 v.n, .string v.s, .slice none 0 0]
structure VAt (w : World) (B : Nat) (v : Val) (cs : List Value) : Prop where
  ex : ∃ A c, cs = [.int .i64 v.k, .int .i64 v.n, .string v.s, .slice A v.l.length c] ∧ Reads w B 1 A v.l.length (numV .i64 v.l)
  h1 : v.s.size ≤ maxLen
  h2 : v.l.length ≤ maxLen
theorem VAt.keep {w w' : World} {B B' : Nat} {v : Val} {cs : List Value} (h : VAt w B v cs) (hb : Below B' w w') (hB : B ≤ B') : VAt w' B v cs := by
  obtain ⟨⟨A, c, e, hx⟩, h1, h2⟩ := h
  exact ⟨⟨A, c, e, hx.below (hb.mono hB)⟩, h1, h2⟩
theorem VAt.bare {w : World} {B : Nat} {v : Val} (hl : v.l = []) (hs : v.s.size ≤ maxLen) : VAt w B v [.int .i64 v.k, .int .i64 v.n, .string v.s, .slice none 0 0] := by
  obtain ⟨k, n, s, l⟩ := v
  cases hl
  exact ⟨⟨none, 0, rfl, Reads.none_⟩, hs, Nat.zero_le _⟩
/-- a value handed back whose set lies below B -/
def VRet (w : World) (B : Nat) (v : Val) (x : Value) : Prop := ∃ cs, x = .agg cs.toArray ∧ VAt w B v cs
theorem VRet.bare {w : World} {B : Nat} {v : Val} (hl : v.l = []) (hs : v.s.size ≤ maxLen) : VRet w B v (vz v) := ⟨_, rfl, VAt.bare hl hs⟩
theorem VRet.keep {w w' : World} {B B' : Nat} {v : Val} {x : Value} (h : VRet w B v x) (hb : Below B' w w') (hB : B ≤ B') : VRet w' B v x := by
  obtain ⟨cs, e, h⟩ := h
  exact ⟨cs, e, h.keep hb hB⟩
/-- values in a row, their sets below B0 -/
abbrev ArgsAt (B0 : Nat) := LiesAt (fun w _ => VAt w B0) 4
theorem ArgsAt.keep {w w' : World} {B0 B : Nat} {A : Option Addr} {l : List Val} (h : ArgsAt B0 w B A l) (hB : B0 ≤ B) (hb : Below B w w') : ArgsAt B0 w' B A l := LiesAt.keep (fun _ _ h => h.keep hb hB) h hb
theorem numeral_bare (n : Int) : (numeralV n).l = [] ∧ (numeralV n).s = ⟨#[]⟩ := by unfold numeralV; split <;> exact ⟨rfl, rfl⟩
theorem VRet.num {w : World} {B : Nat} (n : Int) : VRet w B (numeralV n) (vz (numeralV n)) := VRet.bare (numeral_bare n).1 (by rw [(numeral_bare n).2]; exact Nat.zero_le _)
theorem VRet.truth {w : World} {B : Nat} (b : Bool) : VRet w B (truthV b) (vz (truthV b)) := VRet.bare rfl (Nat.zero_le _)
theorem VRet.zero {w : World} {B : Nat} : VRet w B zeroV (vz zeroV) := VRet.bare rfl (Nat.zero_le _)
end Go.Proofs.YtpanbeoelbhhgaaGreatDoor
namespace Go.Proofs.YtpanbeoelbhhgaaGreatDoor
open Go.RowKit
attribute [local go_sem ↓] Go.wp_at_zero Go.wp_at_succ
set_option maxHeartbeats 2000000
set_option maxRecDepth 100000
theorem below_a (w : World) (o : Obj) : Below w.heap.size w (w.alloc o) := (Below.refl _ w).alloc (Nat.le_refl _) _
theorem set4_ex {w w4 : World} {T : TypeId} {g b : Nat} {c0 c1 c2 c3 : Value} (B : Blk w4 g T #[c0, c1, c2, c3]) (h : Below b w w4) (hg : b ≤ g) (a0 a1 a2 a3 : Value) : ∃ W, W = (((w4.setCell ⟨g, 0, none⟩ a0).setCell ⟨g, 1, none⟩ a1).setCell ⟨g, 2, none⟩ a2).setCell ⟨g, 3, none⟩ a3 ∧ Blk W g T #[a0, a1, a2, a3] ∧ Below b w W :=
  ⟨_, rfl, ((((B.set_ 0 _).set_ 1 _).set_ 2 _).set_ 3 _), ((((h.setCell (p := ⟨g, 0, none⟩) hg _).setCell (p := ⟨g, 1, none⟩) hg _).setCell (p := ⟨g, 2, none⟩) hg _).setCell (p := ⟨g, 3, none⟩) hg _)⟩
theorem Blk.z4 {w : World} {g : Nat} {T : TypeId} {a0 a1 a2 a3 : Value} (h : Blk w g T #[a0, a1, a2, a3]) : w.cell? ⟨g, 0, none⟩ = some a0 ∧ w.frozen? ⟨g, 0, none⟩ = false ∧ w.cell? ⟨g, 1, none⟩ = some a1 ∧ w.frozen? ⟨g, 1, none⟩ = false ∧ w.cell? ⟨g, 2, none⟩ = some a2 ∧ w.frozen? ⟨g, 2, none⟩ = false ∧ w.cell? ⟨g, 3, none⟩ = some a3 ∧ w.frozen? ⟨g, 3, none⟩ = false := ⟨h.cell 0, h.frozen 0, h.cell 1, h.frozen 1, h.cell 2, h.frozen 2, h.cell 3, h.frozen 3⟩
/-- a value stored into the result's cells, and handed back -/
theorem end4 {fn : Func} {s : Tmp} {tmps : Array Value} {w w4 : World} {g b : Nat} {c0 c1 c2 c3 a0 a1 a2 a3 : Value} {Q : Ending → World → Prop} (hr : fn.results = #[.cell s 24]) (hs : tmps[s]?.getD undef = .pointer (some ⟨g, 0, none⟩)) (B : Blk w4 g 24 #[c0, c1, c2, c3]) (hb : Below b w w4) (hg : b ≤ g) (h : ∀ W, Below b w W → Q (.returned (.agg #[a0, a1, a2, a3])) W) :
    bodyPost Tryz.prog fn Q Exit.ret { tmps := tmps, defers := [] } ((((w4.setCell ⟨g, 0, none⟩ a0).setCell ⟨g, 1, none⟩ a1).setCell ⟨g, 2, none⟩ a2).setCell ⟨g, 3, none⟩ a3) := by
  obtain ⟨W, hW, B9, hb9⟩ := set4_ex B hb hg a0 a1 a2 a3
  rw [← hW]
  have q0 : W.cell? ⟨g, 0, none⟩ = some a0 := B9.cell 0
  have q1 : W.cell? ⟨g, 1, none⟩ = some a1 := B9.cell 1
  have q2 : W.cell? ⟨g, 2, none⟩ = some a2 := B9.cell 2
  have q3 : W.cell? ⟨g, 3, none⟩ = some a3 := B9.cell 3
  exact bodyPost_ret (v := .agg #[a0, a1, a2, a3]) (by simp [results, hr, go_sem, hs, q0, q1, q2, q3]) rfl (h W hb9)
theorem truth_any (b : Bool) (w : World) :
    Calls Tryz.prog 76 #[.bool b] w fun e w' => e = .returned (vz (truthV b)) ∧ Below w.heap.size w w' := by
  cases b
  all_goals
    go_enter Tryz.func76, Tryz.ntmps76
    go_wp2_with fail
  · exact bodyPost_ret (v := vz (truthV false)) (by simp [results, Tryz.results76, go_sem, vz, truthV]) rfl ⟨rfl, below_a _ _⟩
  · exact bodyPost_ret (v := vz (truthV true)) (by simp [results, Tryz.results76, go_sem, vz, truthV]) rfl ⟨rfl, below_a _ _⟩
theorem missing_any (k n : Int) (s : ByteArray) (x : Value) (w : World) :
    Calls Tryz.prog 52 #[.agg #[.int .i64 k, .int .i64 n, .string s, x]] w fun e w' => e = .returned (.bool (decide (k = 0))) ∧ Below w.heap.size w w' := by
  go_enter Tryz.func52, Tryz.ntmps52
  go_wp2_with fail
  go_ret
  exact ⟨ret_bool (by by_cases h : k = 0 <;> simp [h]), below_a _ _⟩
theorem isTrue_any (k n : Int) (s : ByteArray) (x : Value) (w : World) :
    Calls Tryz.prog 51 #[.agg #[.int .i64 k, .int .i64 n, .string s, x]] w fun e w' => e = .returned (.bool (decide (k = 7) && decide (n = 1))) ∧ Below w.heap.size w w' := by
  by_cases h : k = 7
  · subst h
    go_enter Tryz.func51, Tryz.ntmps51
    go_wp2_with fail
    go_ret
    exact ⟨ret_bool (by by_cases h : n = 1 <;> simp [h]), below_a _ _⟩
  · go_enter Tryz.func51, Tryz.ntmps51
    go_wp2_with fail
    go_ret
    exact ⟨ret_bool (by simp [h]), below_a _ _⟩
theorem numeral_any (n : Int) (w : World) :
    Calls Tryz.prog 47 #[.int .i64 n] w fun e w' => e = .returned (vz (numeralV n)) ∧ Below w.heap.size w w' := by
  obtain ⟨o, ho⟩ : ∃ o, outB n (-999999999999999) 999999999999999 = o := ⟨_, rfl⟩
  have HO := Lib.hid ho
  have HV := Lib.hid (show vz (numeralV n) = if o = true then .agg #[.int .i64 0, .int .i64 0, .string ⟨#[]⟩, .slice none 0 0] else .agg #[.int .i64 2, .int .i64 n, .string ⟨#[]⟩, .slice none 0 0] by
    unfold numeralV; rw [ho]; cases o <;> rfl)
  clear ho
  cases o
  all_goals
    go_enter Tryz.func47, Tryz.ntmps47
    go_wp2_with (go_at_call 23; refine (outside_any n _ _ _).mono ?_; rintro e w1 ⟨rfl, rfl⟩; rw [HO.out])
  · exact bodyPost_ret (v := .agg #[.int .i64 2, .int .i64 n, .string ⟨#[]⟩, .slice none 0 0]) (by simp [results, Tryz.results47, go_sem]) rfl ⟨ret_val (HV.out.symm), below_a _ _⟩
  · exact bodyPost_ret (v := .agg #[.int .i64 0, .int .i64 0, .string ⟨#[]⟩, .slice none 0 0]) (by simp [results, Tryz.results47, go_sem]) rfl ⟨ret_val (HV.out.symm), below_a _ _⟩
end Go.Proofs.YtpanbeoelbhhgaaGreatDoor
namespace Go.Proofs.YtpanbeoelbhhgaaGreatDoor
open Go.RowKit
attribute [local go_sem ↓] Go.wp_at_zero Go.wp_at_succ
set_option maxHeartbeats 4000000
set_option maxRecDepth 100000
theorem xor3 (x y z : Bool) : (!(!x == y) == z) = xor (xor x y) z := by cases x <;> cases y <;> cases z <;> rfl
theorem mag_neg {n : Int} (h1 : -9223372036854775808 ≤ n) (h2 : n < 0) : IntKind.u64.wrap (-(IntKind.u64.wrap n)) = ((n.natAbs : Nat) : Int) := by
  unfold IntKind.wrap
  simp [IntKind.bits, IntKind.signed]
  omega
theorem mag_pos {n : Int} (h1 : 0 ≤ n) (h2 : n ≤ 9223372036854775807) : IntKind.u64.wrap n = ((n.natAbs : Nat) : Int) := by
  unfold IntKind.wrap
  simp [IntKind.bits, IntKind.signed]
  omega
theorem mag_any (n : Int) (w : World) (h1 : -9223372036854775808 ≤ n) (h2 : n ≤ 9223372036854775807) :
    Calls Tryz.prog 32 #[.int .i64 n] w fun e w' => e = .returned (.int .u64 (n.natAbs : Nat)) ∧ w = w' := by
  by_cases hn : n < 0
  · have HN := Lib.hid (mag_neg h1 hn)
    go_enter Tryz.func32, Tryz.ntmps32
    go_wp2
    go_ret
    exact ⟨ret_val (by rw [HN.out]; rfl), rfl⟩
  · have HN := Lib.hid (mag_pos (by omega) h2)
    go_enter Tryz.func32, Tryz.ntmps32
    go_wp2
    go_ret
    exact ⟨ret_val (by first | (rw [HN.out]; rfl) | (rw [show ((n.natAbs : Nat) : Int) = n by omega]; rfl) | rfl), rfl⟩
/-- bounds of the numbers that are computed with -/
def nB (n : Int) : Prop := -999999999999999 ≤ n ∧ n ≤ 999999999999999
theorem divided_any (a b c : Int) (w : World) (ha : nB a) (hb : nB b) (hc : nB c) (_hc0 : c ≠ 0) :
    Calls Tryz.prog 122 #[.int .i64 a, .int .i64 b, .int .i64 c] w fun e w' => e = .returned (vz (dividedV a b c)) ∧ Below w.heap.size w w' := by
  obtain ⟨ka1, ka2⟩ := ha
  obtain ⟨kb1, kb2⟩ := hb
  obtain ⟨kc1, kc2⟩ := hc
  have HMa := Lib.hid (fun w => mag_any a w (by omega) (by omega))
  have HMb := Lib.hid (fun w => mag_any b w (by omega) (by omega))
  have HMc := Lib.hid (fun w => mag_any c w (by omega) (by omega))
  obtain ⟨A, hA⟩ : ∃ A, a.natAbs = A := ⟨_, rfl⟩
  obtain ⟨C, hC⟩ : ∃ A, c.natAbs = A := ⟨_, rfl⟩
  obtain ⟨D, hD⟩ : ∃ A, b.natAbs = A := ⟨_, rfl⟩
  have hP : prodN a b = A * D := by unfold prodN; rw [hA, hD]
  rw [hA] at HMa
  rw [hC] at HMc
  rw [hD] at HMb
  have HMul := Lib.hid (Tryz.bits_Mul64 A D (by omega) (by omega))
  have hAD : A * D < 1000000000000000 * 1000000000000000 := Nat.mul_lt_mul'' (by omega) (by omega)
  obtain ⟨H, hH⟩ : ∃ H, A * D / 18446744073709551616 = H := ⟨_, rfl⟩
  obtain ⟨L, hL⟩ : ∃ L, A * D % 18446744073709551616 = L := ⟨_, rfl⟩
  have hLb : L < 18446744073709551616 := by rw [← hL]; exact Nat.mod_lt _ (by decide)
  rw [hH, hL] at HMul
  have HV := Lib.hid (show dividedV a b c = if C ≤ H then zeroV else if 999999999999999 < quoI a b c then zeroV else numeralV (if xor (xor (decide (a < 0)) (decide (b < 0))) (decide (c < 0)) = true then -quoI a b c else quoI a b c) by unfold dividedV; rw [hP, hH, hC])
  by_cases hCH : C ≤ H
  · have hge : (C : Int) ≤ (H : Int) := by omega
    clear hAD hL hH hP hA hC hD hLb
    go_enter Tryz.func122, Tryz.ntmps122
    go_wp2_with (first | (go_at_call 32; (with_reducible refine (HMa.out _).mono ?_); rintro e w1 ⟨rfl, rfl⟩) | (go_at_call 32; (with_reducible refine (HMb.out _).mono ?_); rintro e w1 ⟨rfl, rfl⟩) | (go_at_call 32; (with_reducible refine (HMc.out _).mono ?_); rintro e w1 ⟨rfl, rfl⟩) | (go_at_call 164; (with_reducible refine (HMul.out _).mono ?_); rintro e w1 ⟨rfl, rfl⟩))
    exact bodyPost_ret (v := .agg #[.int .i64 0, .int .i64 0, .string ⟨#[]⟩, .slice none 0 0]) (by simp [results, Tryz.results122, go_sem]) rfl ⟨ret_val (by rw [HV.out, if_pos hCH]; rfl), below_a _ _⟩
  obtain ⟨r1, r2, r3, r4, hDiv⟩ := div64_any H L C (by omega) (by omega) hLb
  have HQ := Lib.hid (show quoI a b c = if w6 ((C : Int) - (div64F H L C).2) ≤ (div64F H L C).2 then w6 ((div64F H L C).1 + 1) else (div64F H L C).1 by unfold quoI; rw [hP, hH, hL, hC])
  have HDiv := Lib.hid hDiv
  have HV := Lib.hid (HV.out.trans (if_neg hCH))
  have hge : ¬ (C : Int) ≤ (H : Int) := by omega
  clear hDiv hAD hL hH hP hA hC hD hLb hCH
  obtain ⟨⟨q, r⟩, hR⟩ : ∃ R, div64F H L C = R := ⟨_, rfl⟩
  rw [hR] at r1 r2 r3 r4 HQ HDiv
  clear hR
  obtain ⟨Q, hQ⟩ : ∃ Q, quoI a b c = Q := ⟨_, rfl⟩
  rw [hQ] at HQ HV
  have HARMS := Lib.hid True.intro
  by_cases hw : w6 ((C : Int) - r) ≤ r
  case' pos =>
    have hge1 : IntKind.u64.wrap ((C : Int) - r) ≤ r := hw
    have hQe : IntKind.u64.wrap (q + 1) = Q := by have h := HQ.out; rw [if_pos hw] at h; exact h.symm
    have hQr : 0 ≤ Q ∧ Q < 18446744073709551616 := by rw [← hQe]; exact w6_range _
  case' neg =>
    have hge1 : ¬ IntKind.u64.wrap ((C : Int) - r) ≤ r := hw
    have hQe : q = Q := by have h := HQ.out; rw [if_neg hw] at h; exact h.symm
    have hQr : 0 ≤ Q ∧ Q < 18446744073709551616 := by rw [← hQe]; exact ⟨r1, r2⟩
  all_goals
    clear HQ hQ
    obtain ⟨hQ0, hQ1⟩ := hQr
    clear hw
    by_cases hm : 999999999999999 < Q
    case' pos =>
      have HV := Lib.hid (HV.out.trans (if_pos hm))
    case' neg =>
      have HV := Lib.hid (HV.out.trans (if_neg hm))
  all_goals
    go_enter Tryz.func122, Tryz.ntmps122
    go_wp2_with (first | (go_at_call 32; (with_reducible refine (HMa.out _).mono ?_); rintro e w1 ⟨rfl, rfl⟩) | (go_at_call 32; (with_reducible refine (HMb.out _).mono ?_); rintro e w1 ⟨rfl, rfl⟩) | (go_at_call 32; (with_reducible refine (HMc.out _).mono ?_); rintro e w1 ⟨rfl, rfl⟩) | (go_at_call 164; (with_reducible refine (HMul.out _).mono ?_); rintro e w1 ⟨rfl, rfl⟩) | (go_at_call 165; (with_reducible refine (HDiv.out _).mono ?_); rintro e w1 ⟨rfl, hb1⟩; have B0 := (Blk.new w 24 #[.int .i64 0, .int .i64 0, .string ⟨#[]⟩, .slice none 0 0]).below hb1 (by simp); obtain ⟨r0, s0, r1, s1, r2, s2, r3, s3⟩ := Blk.z4 B0) | (go_at_call 47; refine (numeral_any _ _).mono ?_; rintro e w2 ⟨rfl, hb2⟩; have B0 := B0.below hb2 B0.lt; obtain ⟨r0, s0, r1, s1, r2, s2, r3, s3⟩ := Blk.z4 B0; unfold vz))
  all_goals first
    | exact end4 Tryz.results122 rfl B0 (((below_a w (.cells #[.int .i64 0, .int .i64 0, .string ⟨#[]⟩, .slice none 0 0] 24 (0, 0))).trans (hb1.mono (by simp))).trans (hb2.mono (by have := hb1.size; simp at this; omega))) (Nat.le_refl _) (fun W hW => ⟨ret_val (by rename_i hx; rw [HV.out, if_pos ((xor3 _ _ _).symm.trans hx)]; rfl), hW⟩)
    | exact end4 Tryz.results122 rfl B0 (((below_a w (.cells #[.int .i64 0, .int .i64 0, .string ⟨#[]⟩, .slice none 0 0] 24 (0, 0))).trans (hb1.mono (by simp))).trans (hb2.mono (by have := hb1.size; simp at this; omega))) (Nat.le_refl _) (fun W hW => ⟨ret_val (by rename_i hx; rw [HV.out, if_neg (by rw [← xor3, hx]; decide)]; rfl), hW⟩)
    | exact end4 Tryz.results122 rfl B0 ((below_a w (.cells #[.int .i64 0, .int .i64 0, .string ⟨#[]⟩, .slice none 0 0] 24 (0, 0))).trans (hb1.mono (by simp))) (Nat.le_refl _) (fun W hW => ⟨ret_val (by rw [HV.out]; rfl), hW⟩)
theorem fmod_cases {a b : Int} (h0 : b ≠ 0) (k1 : -999999999999999 ≤ b) (k2 : b ≤ 999999999999999) :
    (a.tmod b = 0 → a.fmod b = 0) ∧ ((a.tmod b != 0) = true → (!decide (a.tmod b < 0) == decide (b < 0)) = true → a.fmod b = wrap64 (a.tmod b + b)) ∧
    ((a.tmod b != 0) = false ∨ (!decide (a.tmod b < 0) == decide (b < 0)) = false → a.fmod b = a.tmod b) := by
  have e1 := Int.tmod_eq_emod (a := a) (b := b)
  have e2 := Int.fmod_eq_emod (a := a) (b := b)
  have hd : b ∣ a ↔ a % b = 0 := Int.dvd_iff_emod_eq_zero
  have b1 := Int.emod_nonneg a h0
  have b2 := Int.emod_lt a h0
  have hw : ∀ x : Int, -9223372036854775808 ≤ x → x ≤ 9223372036854775807 → wrap64 x = x := fun x h1 h2 => by simp [wrap64]; omega
  by_cases hm : b ∣ a
  case' pos =>
    have hz := hd.1 hm
    rw [if_pos (.inr hm)] at e1 e2
  case' neg =>
    have hz : ¬ a % b = 0 := fun h => hm (hd.2 h)
    rw [show (if 0 ≤ a ∨ b ∣ a then (0 : Nat) else b.natAbs) = if 0 ≤ a then 0 else b.natAbs by simp only [hm, or_false]] at e1
    rw [show (if 0 ≤ b ∨ b ∣ a then (0 : Int) else b) = if 0 ≤ b then 0 else b by simp only [hm, or_false]] at e2
  all_goals
    clear hm hd
    generalize a % b = m at e1 e2 b1 b2 hz
    generalize a.tmod b = t at e1 ⊢
    generalize a.fmod b = f at e2 ⊢
    refine ⟨fun h => ?_, fun h h' => ?_, fun h => ?_⟩
    · (try split at e1) <;> (try split at e2) <;> omega
    · rw [hw _ (by (try split at e1) <;> omega) (by (try split at e1) <;> omega)]
      have ht : t ≠ 0 := by simpa using h
      by_cases c1 : t < 0 <;> by_cases c2 : b < 0 <;> simp [c1, c2] at h' <;> (try split at e1) <;> (try split at e2) <;> omega
    · by_cases ht : t = 0
      · (try split at e1) <;> (try split at e2) <;> omega
      · have h' := h.resolve_left (by simpa using ht)
        by_cases c1 : t < 0 <;> by_cases c2 : b < 0 <;> simp [c1, c2] at h' <;> (try split at e1) <;> (try split at e2) <;> omega
/-- sums and the like -/
theorem arith_any (op a b : Int) (w : World) (ho : 15 ≤ op ∧ op ≤ 19) (ha : nB a) (hb : nB b) :
    Calls Tryz.prog 82 #[.int .i64 op, .int .i64 a, .int .i64 b] w fun e w' => e = .returned (vz (arithV op a b)) ∧ Below w.heap.size w w' := by
  have HD1 := Lib.hid (fun w => divided_any a b 10000 w ha hb ⟨by decide, by decide⟩ (by decide))
  have HD2 := Lib.hid (fun w (h : b ≠ 0) => divided_any a 10000 b w ha ⟨by decide, by decide⟩ hb h)
  obtain ⟨ka1, ka2⟩ := ha
  obtain ⟨kb1, kb2⟩ := hb
  obtain ⟨ho1, ho2⟩ := ho
  rcases (show op = 15 ∨ op = 16 ∨ op = 17 ∨ op = 18 ∨ op = 19 by omega) with rfl | rfl | rfl | rfl | rfl
  · go_enter Tryz.func82, Tryz.ntmps82
    go_wp2_with (go_at_call 47; refine (numeral_any _ _).mono ?_; rintro e w2 ⟨rfl, hb2⟩; have B0 := (Blk.new w 24 #[.int .i64 0, .int .i64 0, .string ⟨#[]⟩, .slice none 0 0]).below hb2 (by simp); obtain ⟨r0, s0, r1, s1, r2, s2, r3, s3⟩ := Blk.z4 B0; unfold vz)
    have hbw := (below_a w (.cells #[.int .i64 0, .int .i64 0, .string ⟨#[]⟩, .slice none 0 0] 24 (0, 0))).trans (hb2.mono (by simp))
    exact end4 Tryz.results82 rfl B0 hbw (Nat.le_refl _) (fun W hW => ⟨rfl, hW⟩)
  · go_enter Tryz.func82, Tryz.ntmps82
    go_wp2_with (go_at_call 47; refine (numeral_any _ _).mono ?_; rintro e w2 ⟨rfl, hb2⟩; have B0 := (Blk.new w 24 #[.int .i64 0, .int .i64 0, .string ⟨#[]⟩, .slice none 0 0]).below hb2 (by simp); obtain ⟨r0, s0, r1, s1, r2, s2, r3, s3⟩ := Blk.z4 B0; unfold vz)
    have hbw := (below_a w (.cells #[.int .i64 0, .int .i64 0, .string ⟨#[]⟩, .slice none 0 0] 24 (0, 0))).trans (hb2.mono (by simp))
    exact end4 Tryz.results82 rfl B0 hbw (Nat.le_refl _) (fun W hW => ⟨rfl, hW⟩)
  · go_enter Tryz.func82, Tryz.ntmps82
    go_wp2_with (go_at_call 122; refine (HD1.out _).mono ?_; rintro e w2 ⟨rfl, hb2⟩; have B0 := (Blk.new w 24 #[.int .i64 0, .int .i64 0, .string ⟨#[]⟩, .slice none 0 0]).below hb2 (by simp); obtain ⟨r0, s0, r1, s1, r2, s2, r3, s3⟩ := Blk.z4 B0; unfold vz)
    have hbw := (below_a w (.cells #[.int .i64 0, .int .i64 0, .string ⟨#[]⟩, .slice none 0 0] 24 (0, 0))).trans (hb2.mono (by simp))
    exact end4 Tryz.results82 rfl B0 hbw (Nat.le_refl _) (fun W hW => ⟨rfl, hW⟩)
  · by_cases h0 : b = 0
    · subst h0
      go_enter Tryz.func82, Tryz.ntmps82
      go_wp2_with fail
      exact bodyPost_ret (v := .agg #[.int .i64 0, .int .i64 0, .string ⟨#[]⟩, .slice none 0 0]) (by simp [results, Tryz.results82, go_sem]) rfl ⟨rfl, below_a _ _⟩
    · have h0' : (b == 0) = false := by simpa using h0
      go_enter Tryz.func82, Tryz.ntmps82
      go_wp2_with (go_at_call 122; refine (HD2.out _ h0).mono ?_; rintro e w2 ⟨rfl, hb2⟩; have B0 := (Blk.new w 24 #[.int .i64 0, .int .i64 0, .string ⟨#[]⟩, .slice none 0 0]).below hb2 (by simp); obtain ⟨r0, s0, r1, s1, r2, s2, r3, s3⟩ := Blk.z4 B0; unfold vz)
      have hbw := (below_a w (.cells #[.int .i64 0, .int .i64 0, .string ⟨#[]⟩, .slice none 0 0] 24 (0, 0))).trans (hb2.mono (by simp))
      exact end4 Tryz.results82 rfl B0 hbw (Nat.le_refl _) (fun W hW => ⟨ret_val (by unfold arithV; rw [if_neg (by decide), if_neg (by decide), if_neg (by decide), if_neg h0, if_pos rfl]; rfl), hW⟩)
  · by_cases h0 : b = 0
    · subst h0
      go_enter Tryz.func82, Tryz.ntmps82
      go_wp2_with fail
      exact bodyPost_ret (v := .agg #[.int .i64 0, .int .i64 0, .string ⟨#[]⟩, .slice none 0 0]) (by simp [results, Tryz.results82, go_sem]) rfl ⟨rfl, below_a _ _⟩
    · have h0' : (b == 0) = false := by simpa using h0
      have HA := Lib.hid (show vz (arithV 19 a b) = vz (numeralV (a.fmod b)) by unfold arithV; rw [if_neg (by decide), if_neg (by decide), if_neg (by decide), if_neg h0, if_neg (by decide)])
      have HF := Lib.hid (fmod_cases (a := a) h0 kb1 kb2)
      go_enter Tryz.func82, Tryz.ntmps82
      go_wp2_with (go_at_call 47; refine (numeral_any _ _).mono ?_; rintro e w2 ⟨rfl, hb2⟩; have B0 := (Blk.new w 24 #[.int .i64 0, .int .i64 0, .string ⟨#[]⟩, .slice none 0 0]).below hb2 (by simp); obtain ⟨r0, s0, r1, s1, r2, s2, r3, s3⟩ := Blk.z4 B0; unfold vz)
      · rename_i hx
        have hbw := (below_a w (.cells #[.int .i64 0, .int .i64 0, .string ⟨#[]⟩, .slice none 0 0] 24 (0, 0))).trans (hb2.mono (by simp))
        exact end4 Tryz.results82 rfl B0 hbw (Nat.le_refl _) (fun W hW => ⟨ret_val (by rw [HA.out, HF.out.1 hx]; rfl), hW⟩)
      · rename_i hx
        have hbw := (below_a w (.cells #[.int .i64 0, .int .i64 0, .string ⟨#[]⟩, .slice none 0 0] 24 (0, 0))).trans (hb2.mono (by simp))
        exact end4 Tryz.results82 rfl B0 hbw (Nat.le_refl _) (fun W hW => ⟨ret_val (by rw [HA.out, HF.out.2.1 hx.1 hx.2]; rfl), hW⟩)
      · rename_i hy hx
        have hbw := (below_a w (.cells #[.int .i64 0, .int .i64 0, .string ⟨#[]⟩, .slice none 0 0] 24 (0, 0))).trans (hb2.mono (by simp))
        exact end4 Tryz.results82 rfl B0 hbw (Nat.le_refl _) (fun W hW => ⟨ret_val (by rw [HA.out, HF.out.2.2 hx]; rfl), hW⟩)
end Go.Proofs.YtpanbeoelbhhgaaGreatDoor
namespace Go.Proofs.YtpanbeoelbhhgaaGreatDoor
open Go.RowKit
attribute [local go_sem ↓] Go.wp_at_zero Go.wp_at_succ
set_option maxHeartbeats 4000000
set_option maxRecDepth 100000
theorem box2 (w : World) (T1 T2 : TypeId) (cs1 cs2 : Array Value) : ∃ W, W = (w.alloc (.cells cs1 T1 (0, 0))).alloc (.cells cs2 T2 (0, 0)) ∧ Below w.heap.size w W ∧ Blk W w.heap.size T1 cs1 ∧ Blk W (w.heap.size + 1) T2 cs2 ∧ W.heap.size = w.heap.size + 2 :=
  ⟨_, rfl, ((Below.refl _ w).alloc (Nat.le_refl _) _).alloc (by simp) _, (Blk.new w T1 cs1).alloc _, by have := Blk.new (w.alloc (.cells cs1 T1 (0, 0))) T2 cs2; rwa [World.size_alloc] at this, by simp⟩
theorem floorDiv_any (a : Int) (w : World) (ha : nB a) :
    Calls Tryz.prog 127 #[.int .i64 a, .int .i64 10000] w fun e w' => e = .returned (.int .i64 (a / 10000)) ∧ w' = w := by
  obtain ⟨ka1, ka2⟩ := ha
  have h1 : (if a < 0 ∧ a.tmod 10000 ≠ 0 then a.tdiv 10000 - 1 else a.tdiv 10000) = a / 10000 := by
    rcases Int.lt_or_le a 0 with h | h
    · obtain ⟨n, rfl⟩ : ∃ n : Nat, a = -(n : Int) := ⟨a.natAbs, by omega⟩
      rw [Int.neg_tdiv, Int.neg_tmod, Int.tdiv_eq_ediv_of_nonneg (by omega), Int.tmod_eq_emod_of_nonneg (by omega)]
      split <;> omega
    · rw [if_neg (by omega), Int.tdiv_eq_ediv_of_nonneg h]
  have HK := Lib.hid h1
  have hb : -999999999999999 ≤ a.tdiv 10000 ∧ a.tdiv 10000 ≤ 999999999999999 := by
    have := h1
    split at this <;> omega
  obtain ⟨hb1, hb2⟩ := hb
  by_cases hz : a.tmod 10000 = 0
  · have HK2 := Lib.hid (show a.tdiv 10000 = a / 10000 by rw [← HK.out, if_neg (fun q => q.2 hz)])
    clear h1 HK
    go_enter Tryz.func127, Tryz.ntmps127
    go_wp2_with fail
    go_ret
    exact ⟨congrArg (fun x => Ending.returned (Value.int .i64 x)) HK2.out, rfl⟩
  · by_cases hn : a < 0
    case' pos =>
      have hz' : (a.tmod 10000 != 0) = true := by simpa using hz
      have HK2 := Lib.hid (show a.tdiv 10000 - 1 = a / 10000 by rw [← HK.out, if_pos ⟨hn, hz⟩])
    case' neg => have HK2 := Lib.hid (show a.tdiv 10000 = a / 10000 by rw [← HK.out, if_neg (fun q => hn q.1)])
    all_goals
      clear h1 HK hz
      go_enter Tryz.func127, Tryz.ntmps127
      go_wp2_with fail
      all_goals go_ret
      all_goals exact ⟨congrArg (fun x => Ending.returned (Value.int .i64 x)) HK2.out, rfl⟩
theorem dayValue_any (n : Int) (w : World) :
    Calls Tryz.prog 125 #[.int .i64 n] w fun e w' => e = .returned (vz (dayV n)) ∧ Below w.heap.size w w' := by
  obtain ⟨o, ho⟩ : ∃ o, outB n (-25567) 84005 = o := ⟨_, rfl⟩
  have HO := Lib.hid ho
  have HV := Lib.hid (show vz (dayV n) = if o = true then .agg #[.int .i64 0, .int .i64 0, .string ⟨#[]⟩, .slice none 0 0] else .agg #[.int .i64 6, .int .i64 n, .string ⟨#[]⟩, .slice none 0 0] by
    unfold dayV; rw [ho]; cases o <;> rfl)
  clear ho
  cases o
  all_goals
    go_enter Tryz.func125, Tryz.ntmps125
    go_wp2_with (go_at_call 23; refine (outside_any n _ _ _).mono ?_; rintro e w1 ⟨rfl, rfl⟩; rw [HO.out])
  · exact bodyPost_ret (v := .agg #[.int .i64 6, .int .i64 n, .string ⟨#[]⟩, .slice none 0 0]) (by simp [results, Tryz.results125, go_sem]) rfl ⟨ret_val (HV.out.symm), below_a _ _⟩
  · exact bodyPost_ret (v := .agg #[.int .i64 0, .int .i64 0, .string ⟨#[]⟩, .slice none 0 0]) (by simp [results, Tryz.results125, go_sem]) rfl ⟨ret_val (HV.out.symm), below_a _ _⟩
theorem single_any (op k n : Int) (st : ByteArray) (l : List Int) (A : Option Addr) (c : Nat) (w : World) (ho : 20 ≤ op ∧ op ≤ 23 ∨ op = 28 ∨ op = 29) (hn : nB n) (h29 : op = 29 → -999 ≤ n ∧ n ≤ 999) (hs : st.size ≤ 1000000) (hl : l.length ≤ 1000000) :
    Calls Tryz.prog 85 #[.int .i64 op, .agg #[.int .i64 k, .int .i64 n, .string st, .slice A l.length c]] w fun e w' => e = .returned (vz (singleV op ⟨k, n, st, l⟩)) ∧ Below w.heap.size w w' := by
  have HFD := Lib.hid (fun w => floorDiv_any n w hn)
  obtain ⟨kn1, kn2⟩ := hn
  have hcase : op = 20 ∨ op = 21 ∨ op = 22 ∨ op = 23 ∨ op = 28 ∨ op = 29 := by omega
  obtain ⟨len, hl1⟩ : ∃ n, l.length = n := ⟨_, rfl⟩
  have HSV := Lib.hid (show singleV op ⟨k, n, st, l⟩ = if op = 20 then numeralV (-n) else if op = 21 then numeralV n.natAbs else if op = 22 then numeralV (10000 * (n / 10000)) else if op = 23 then numeralV (roundI n) else if op = 29 then numeralV (10000 * n) else numeralV (10000 * ((st.size : Int) + len)) by unfold singleV; rw [← hl1])
  rw [hl1] at hl ⊢
  obtain ⟨W, hW, hbw, BV, BR, hsz⟩ := box2 w 24 24 #[.int .i64 k, .int .i64 n, .string st, .slice A len c] #[.int .i64 0, .int .i64 0, .string ⟨#[]⟩, .slice none 0 0]
  have vc0 : W.cell? ⟨w.heap.size, 0, none⟩ = some (.int .i64 k) := BV.cell 0
  have vc1 : W.cell? ⟨w.heap.size, 1, none⟩ = some (.int .i64 n) := BV.cell 1
  have vc2 : W.cell? ⟨w.heap.size, 2, none⟩ = some (.string st) := BV.cell 2
  have vc3 : W.cell? ⟨w.heap.size, 3, none⟩ = some (.slice A len c) := BV.cell 3
  rcases hcase with rfl | rfl | rfl | rfl | rfl | rfl
  · have HSV := Lib.hid (show singleV 20 ⟨k, n, st, l⟩ = numeralV (-n) from HSV.out)
    go_enter Tryz.func85, Tryz.ntmps85
    go_upto_region 1 with (fail)
    rw [← hW]
    clear hW
    go_wp2_with (go_at_call 47; refine (numeral_any _ _).mono ?_; rintro e w2 ⟨rfl, hb2⟩; have B0 := BR.below hb2 BR.lt; obtain ⟨r0, s0, r1, s1, r2, s2, r3, s3⟩ := Blk.z4 B0; unfold vz)
    exact end4 Tryz.results85 rfl B0 (hbw.trans (hb2.mono hbw.size)) (by omega) (fun W5 hW5 => ⟨ret_val (by rw [HSV.out]; rfl), hW5⟩)
  · have HSV := Lib.hid (show singleV 21 ⟨k, n, st, l⟩ = numeralV (n.natAbs) from HSV.out)
    go_enter Tryz.func85, Tryz.ntmps85
    go_upto_region 1 with (fail)
    rw [← hW]
    clear hW
    go_wp2_with (go_at_call 47; refine (numeral_any _ _).mono ?_; rintro e w2 ⟨rfl, hb2⟩; have B0 := BR.below hb2 BR.lt; obtain ⟨r0, s0, r1, s1, r2, s2, r3, s3⟩ := Blk.z4 B0; unfold vz)
    exact end4 Tryz.results85 rfl B0 (hbw.trans (hb2.mono hbw.size)) (by omega) (fun W5 hW5 => ⟨ret_val (by rw [HSV.out, show ((n.natAbs : Nat) : Int) = max n (-n) by omega]; rfl), hW5⟩)
  · have HSV := Lib.hid (show singleV 22 ⟨k, n, st, l⟩ = numeralV (10000 * (n / 10000)) from HSV.out)
    have hdb : -999999999999999 ≤ n / 10000 ∧ n / 10000 ≤ 99999999999 := by omega
    obtain ⟨hd1, hd2⟩ := hdb
    go_enter Tryz.func85, Tryz.ntmps85
    go_upto_region 1 with (fail)
    rw [← hW]
    clear hW
    go_wp2_with (first | (go_at_call 127; refine (HFD.out _).mono ?_; rintro e w1 ⟨rfl, rfl⟩) | (go_at_call 47; refine (numeral_any _ _).mono ?_; rintro e w2 ⟨rfl, hb2⟩; have B0 := BR.below hb2 BR.lt; obtain ⟨r0, s0, r1, s1, r2, s2, r3, s3⟩ := Blk.z4 B0; unfold vz))
    exact end4 Tryz.results85 rfl B0 (hbw.trans (hb2.mono hbw.size)) (by omega) (fun W5 hW5 => ⟨ret_val (by rw [HSV.out]; rfl), hW5⟩)
  · have HSV := Lib.hid (show singleV 23 ⟨k, n, st, l⟩ = numeralV (roundI n) from HSV.out)
    have hmx : 0 ≤ max n (-n) ∧ max n (-n) ≤ 999999999999999 := by omega
    obtain ⟨hm1, hm2⟩ := hmx
    go_enter Tryz.func85, Tryz.ntmps85
    go_upto_region 1 with (fail)
    rw [← hW]
    clear hW
    go_wp2_with (go_at_call 47; refine (numeral_any _ _).mono ?_; rintro e w2 ⟨rfl, hb2⟩; have B0 := BR.below hb2 BR.lt; obtain ⟨r0, s0, r1, s1, r2, s2, r3, s3⟩ := Blk.z4 B0; unfold vz)
    all_goals first
      | exact end4 Tryz.results85 rfl B0 (hbw.trans (hb2.mono hbw.size)) (by omega) (fun W5 hW5 => ⟨ret_val (by rw [HSV.out, show roundI n = -(10000 * ((max n (-n) + 5000) / 10000)) by unfold roundI; split <;> omega]; rfl), hW5⟩)
      | exact end4 Tryz.results85 rfl B0 (hbw.trans (hb2.mono hbw.size)) (by omega) (fun W5 hW5 => ⟨ret_val (by rw [HSV.out, show roundI n = 10000 * ((max n (-n) + 5000) / 10000) by unfold roundI; split <;> omega]; rfl), hW5⟩)
  · have HSV := Lib.hid (show singleV 28 ⟨k, n, st, l⟩ = numeralV (10000 * ((st.size : Int) + len)) from HSV.out)
    go_enter Tryz.func85, Tryz.ntmps85
    go_upto_region 1 with (fail)
    rw [← hW]
    clear hW
    go_wp2_with (go_at_call 47; refine (numeral_any _ _).mono ?_; rintro e w2 ⟨rfl, hb2⟩; have B0 := BR.below hb2 BR.lt; obtain ⟨r0, s0, r1, s1, r2, s2, r3, s3⟩ := Blk.z4 B0; unfold vz)
    exact end4 Tryz.results85 rfl B0 (hbw.trans (hb2.mono hbw.size)) (by omega) (fun W5 hW5 => ⟨ret_val (by rw [HSV.out]; rfl), hW5⟩)
  · have HSV := Lib.hid (show singleV 29 ⟨k, n, st, l⟩ = numeralV (10000 * n) from HSV.out)
    obtain ⟨h291, h292⟩ := h29 rfl
    go_enter Tryz.func85, Tryz.ntmps85
    go_upto_region 1 with (fail)
    rw [← hW]
    clear hW
    go_wp2_with (go_at_call 47; refine (numeral_any _ _).mono ?_; rintro e w2 ⟨rfl, hb2⟩; have B0 := BR.below hb2 BR.lt; obtain ⟨r0, s0, r1, s1, r2, s2, r3, s3⟩ := Blk.z4 B0; unfold vz)
    exact end4 Tryz.results85 rfl B0 (hbw.trans (hb2.mono hbw.size)) (by omega) (fun W5 hW5 => ⟨ret_val (by rw [HSV.out]; rfl), hW5⟩)
end Go.Proofs.YtpanbeoelbhhgaaGreatDoor
namespace Go.Proofs.YtpanbeoelbhhgaaGreatDoor
open Go.RowKit
attribute [local go_sem ↓] Go.wp_at_zero Go.wp_at_succ
set_option maxHeartbeats 4000000
set_option maxRecDepth 100000
def dB (n : Int) : Prop := -25567 ≤ n ∧ n ≤ 84005
theorem age_any (a b : Int) (w : World) (ha : dB a) (hb : dB b) :
    Calls Tryz.prog 124 #[.int .i64 a, .int .i64 b] w fun e w' => e = .returned (vz (ageV a b)) ∧ Below w.heap.size w w' := by
  have HCa := Lib.hid (fun w => civil_any a w ha.1 ha.2)
  have HCb := Lib.hid (fun w => civil_any b w hb.1 hb.2)
  obtain ⟨ya1, ya2, -⟩ := civ_bd ha.1 ha.2
  obtain ⟨yb1, yb2, -⟩ := civ_bd hb.1 hb.2
  have HV : Hid (ageV a b = if b < a then zeroV else numeralV (10000 * (if mK a (12 * (Cal.cy b - Cal.cy a)) = 0 ∨ b < mN a (12 * (Cal.cy b - Cal.cy a)) then Cal.cy b - Cal.cy a - 1 else Cal.cy b - Cal.cy a))) := Lib.hid rfl
  obtain ⟨y, hy⟩ : ∃ y, Cal.cy a = y := ⟨_, rfl⟩
  obtain ⟨z, hz⟩ : ∃ y, Cal.cy b = y := ⟨_, rfl⟩
  rw [hy] at HCa HV ya1 ya2
  rw [hz] at HCb HV yb1 yb2
  have HMo := Lib.hid (fun w => Months_any a (12 * (z - y)) w)
  obtain ⟨km, hkm⟩ : ∃ x, mK a (12 * (z - y)) = x := ⟨_, rfl⟩
  obtain ⟨nm, hnm⟩ : ∃ x, mN a (12 * (z - y)) = x := ⟨_, rfl⟩
  rw [hkm, hnm] at HMo HV
  clear ha hb hy hz hkm hnm
  by_cases hlt : b < a
  · have HV := Lib.hid (HV.out.trans (if_pos hlt))
    go_enter Tryz.func124, Tryz.ntmps124
    go_wp2_with fail
    exact bodyPost_ret (v := .agg #[.int .i64 0, .int .i64 0, .string ⟨#[]⟩, .slice none 0 0]) (by simp [results, Tryz.results124, go_sem]) rfl ⟨ret_val (by rw [HV.out]; rfl), below_a _ _⟩
  have HV := Lib.hid (HV.out.trans (if_neg hlt))
  by_cases hk : km = 0
  case' pos =>
    have HV := Lib.hid (HV.out.trans (by rw [if_pos (.inl hk)]))
    subst hk
  case' neg =>
    by_cases hn : b < nm
    case' pos => have HV := Lib.hid (HV.out.trans (by rw [if_pos (.inr hn)]))
    case' neg => have HV := Lib.hid (HV.out.trans (by rw [if_neg (fun q => q.elim hk hn)]))
  all_goals
    go_enter Tryz.func124, Tryz.ntmps124
    go_wp2_with (first | (go_at_call 123; (with_reducible refine (HCa.out _).mono ?_); rintro e w1 ⟨rfl, rfl⟩) | (go_at_call 123; (with_reducible refine (HCb.out _).mono ?_); rintro e w1 ⟨rfl, rfl⟩) | (go_at_call 167; refine (HMo.out _).mono ?_; rintro e w1 ⟨rfl, hb1⟩; have B0 := (Blk.new w 24 #[.int .i64 0, .int .i64 0, .string ⟨#[]⟩, .slice none 0 0]).below hb1 (by simp)) | (go_at_call 52; refine (missing_any _ _ _ _ _).mono ?_; rintro e w3 ⟨rfl, hb3⟩; have BM := (Blk.new w1 _ _).below hb3 (by simp); have B0 := (B0.alloc _).below hb3 (B0.alloc _).lt; obtain ⟨m0, -, m1, -, -⟩ := Blk.z4 BM; first | rw [decide_eq_false hk] | rw [show decide ((0 : Int) = 0) = true from rfl]) | (go_at_call 47; refine (numeral_any _ _).mono ?_; rintro e w2 ⟨rfl, hb2⟩; have B0 := B0.below hb2 B0.lt; obtain ⟨r0, s0, r1, s1, r2, s2, r3, s3⟩ := Blk.z4 B0; unfold vz))
  all_goals exact end4 Tryz.results124 rfl B0 ((((below_a w (.cells #[.int .i64 0, .int .i64 0, .string ⟨#[]⟩, .slice none 0 0] 24 (0, 0))).trans (hb1.mono (by simp))).trans (((below_a w1 _).mono (by have := hb1.size; simp at this; omega)).trans (hb3.mono (by have := hb1.size; simp at this ⊢; omega)))).trans (hb2.mono (by have := hb1.size; have := hb3.size; simp at *; omega))) (Nat.le_refl _) (fun W hW => ⟨ret_val (by rw [HV.out]; rfl), hW⟩)
end Go.Proofs.YtpanbeoelbhhgaaGreatDoor
namespace Go.Proofs.YtpanbeoelbhhgaaGreatDoor
open Go.RowKit
attribute [local go_sem ↓] Go.wp_at_zero Go.wp_at_succ
set_option maxHeartbeats 4000000
set_option maxRecDepth 100000
theorem addr_at (b o n : Nat) : (⟨b, o, none⟩ : Addr).add n = ⟨b, o + n, none⟩ := by unfold Addr.add; split <;> simp_all
theorem Reads.base {w : World} {B size n : Nat} {A : Option Addr} {xs : List Value} (h : Reads w B size A n xs) (hn : 0 < n) (hz : 0 < size) : ∃ b o, A = some ⟨b, o, none⟩ ∧ b < B ∧ ∀ j u, xs[j]? = some u → w.cell? ⟨b, o + j, none⟩ = some u := by
  obtain ⟨ad, rfl, hb, hc⟩ := h.2 hn
  have hl : 0 < xs.length := by rw [h.1]; exact Nat.mul_pos hn hz
  have h0 := hc 0 _ (List.getElem?_eq_getElem hl)
  obtain ⟨b, o, s⟩ := ad
  have hs : s = none := by
    cases s with
    | none => rfl
    | some z =>
      rw [show Addr.add ⟨b, o, some z⟩ 0 = ⟨b, o, some z⟩ from rfl] at h0
      unfold World.cell? at h0
      simp at h0
      split at h0 <;> simp at h0
  subst hs
  exact ⟨b, o, rfl, hb, fun j u hu => by rw [← addr_at]; exact hc j u hu⟩
/-- the cells of a value at an address -/
structure ValCells (w : World) (B0 b o : Nat) (v : Val) (A : Option Addr) (c : Nat) : Prop where
  c0 : w.cell? ⟨b, o, none⟩ = some (.int .i64 v.k)
  c1 : w.cell? ⟨b, o + 1, none⟩ = some (.int .i64 v.n)
  c2 : w.cell? ⟨b, o + 2, none⟩ = some (.string v.s)
  c3 : w.cell? ⟨b, o + 3, none⟩ = some (.slice A v.l.length c)
  r : Reads w B0 1 A v.l.length (numV .i64 v.l)
  h1 : v.s.size ≤ maxLen
  h2 : v.l.length ≤ maxLen
theorem ValCells.at_ {w : World} {B0 b o : Nat} {v : Val} {A : Option Addr} {c : Nat} (h : ValCells w B0 b o v A c) : VAt w B0 v [.int .i64 v.k, .int .i64 v.n, .string v.s, .slice A v.l.length c] := ⟨⟨A, c, rfl, h.r⟩, h.h1, h.h2⟩
theorem ValCells.keep {w w' : World} {B0 B b o : Nat} {v : Val} {A : Option Addr} {c : Nat} (h : ValCells w B0 b o v A c) (hb : Below B w w') (hB : B0 ≤ B) (hlt : b < B) : ValCells w' B0 b o v A c :=
  ⟨(hb.cell hlt).trans h.c0, (hb.cell hlt).trans h.c1, (hb.cell hlt).trans h.c2, (hb.cell hlt).trans h.c3, h.r.below (hb.mono hB), h.h1, h.h2⟩
theorem ArgsAt.base {w : World} {B0 B : Nat} {A : Option Addr} {l : List Val} (h : ArgsAt B0 w B A l) (hn : 0 < l.length) : ∃ b o, A = some ⟨b, o, none⟩ ∧ b < B ∧ ∀ i (hi : i < l.length), ∃ Ai ci, ValCells w B0 b (o + i * 4) l[i] Ai ci := by
  obtain ⟨h0, cs, hr, hp⟩ := h
  obtain ⟨b, o, rfl, hb, hc⟩ := hr.base hn (by decide)
  refine ⟨b, o, rfl, hb, fun i hi => ?_⟩
  obtain ⟨⟨Ai, ci, e, hx⟩, h1, h2⟩ := hp i hi
  have hg : ∀ j u, ([.int .i64 l[i].k, .int .i64 l[i].n, .string l[i].s, .slice Ai l[i].l.length ci] : List Value)[j]? = some u → w.cell? ⟨b, o + i * 4 + j, none⟩ = some u := fun j u hu => by
    rw [Nat.add_assoc]
    refine hc _ u ?_
    rw [← e, List.getElem?_take] at hu
    split at hu
    · rw [List.getElem?_drop] at hu; exact hu
    · cases hu
  exact ⟨Ai, ci, hg 0 _ rfl, hg 1 _ rfl, hg 2 _ rfl, hg 3 _ rfl, hx, h1, h2⟩
theorem dated_1 (op : Int) (v : Val) (b o B0 n cap : Nat) (A : Option Addr) (c : Nat) (w : World) (hv : ValCells w B0 b o v A c) (hb : b < w.heap.size) (hn : 0 < n) (_hm : n ≤ maxLen) (ho : 34 ≤ op ∧ op ≤ 36) (hd : dB v.n) :
    Calls Tryz.prog 83 #[.int .i64 op, .slice (some ⟨b, o, none⟩) n cap] w fun e w' => e = .returned (vz (datedV op v zeroV)) ∧ Below w.heap.size w w' := by
  have HCa := Lib.hid (fun w => civil_any v.n w hd.1 hd.2)
  obtain ⟨ya1, ya2, yb1, yb2, yc1, yc2⟩ := civ_bd hd.1 hd.2
  have HV : Hid (datedV op v zeroV = if op = 34 then numeralV (10000 * Cal.cy v.n) else if op = 35 then numeralV (10000 * Cal.cm v.n) else numeralV (10000 * Cal.cd v.n)) := Lib.hid (by unfold datedV; rcases (show op = 34 ∨ op = 35 ∨ op = 36 by omega) with rfl | rfl | rfl <;> simp)
  obtain ⟨y, hy⟩ : ∃ y, Cal.cy v.n = y := ⟨_, rfl⟩
  obtain ⟨m, hm1⟩ : ∃ y, Cal.cm v.n = y := ⟨_, rfl⟩
  obtain ⟨d, hd1⟩ : ∃ y, Cal.cd v.n = y := ⟨_, rfl⟩
  rw [hy, hm1, hd1] at HCa HV
  rw [hy] at ya1 ya2
  rw [hm1] at yb1 yb2
  rw [hd1] at yc1 yc2
  obtain ⟨x, hx⟩ : ∃ x, v.n = x := ⟨_, rfl⟩
  have e1 := hv.c1
  rw [hx] at e1 HCa
  have HN := Lib.hid hn
  have e1' : (w.alloc (.cells #[.int .i64 0, .int .i64 0, .string ⟨#[]⟩, .slice none 0 0] 24 (0, 0))).cell? ⟨b, o + 1, none⟩ = some (.int .i64 x) := by rw [World.cell?_alloc_lt _ _ _ hb]; exact e1
  have hnn : (0 : Int) < (n : Nat) := by omega
  clear hv hy hm1 hd1 hx hd e1
  rcases (show op = 34 ∨ op = 35 ∨ op = 36 by omega) with rfl | rfl | rfl
  all_goals
    go_enter Tryz.func83, Tryz.ntmps83
    go_wp2_with (first | (go_at_call 123; refine (HCa.out _).mono ?_; rintro e w1 ⟨rfl, rfl⟩) | (go_at_call 47; refine (numeral_any _ _).mono ?_; rintro e w2 ⟨rfl, hb2⟩; have B0 := (Blk.new w 24 #[.int .i64 0, .int .i64 0, .string ⟨#[]⟩, .slice none 0 0]).below hb2 (by simp); obtain ⟨r0, s0, r1, s1, r2, s2, r3, s3⟩ := Blk.z4 B0; unfold vz))
    have hbw := (below_a w (.cells #[.int .i64 0, .int .i64 0, .string ⟨#[]⟩, .slice none 0 0] 24 (0, 0))).trans (hb2.mono (by simp))
    exact end4 Tryz.results83 rfl B0 hbw (Nat.le_refl _) (fun W hW => ⟨ret_val (by rw [HV.out]; simp; rfl), hW⟩)
theorem dated_2 (op : Int) (v u : Val) (b o B0 n cap : Nat) (A A' : Option Addr) (c c' : Nat) (w : World) (hv : ValCells w B0 b o v A c) (hu : ValCells w B0 b (o + 4) u A' c') (hb : b < w.heap.size) (hn : 1 < n) (_hm : n ≤ maxLen) (ho : op = 37 ∨ op = 38) (hd : dB v.n) (hdu : dB u.n) :
    Calls Tryz.prog 83 #[.int .i64 op, .slice (some ⟨b, o, none⟩) n cap] w fun e w' => e = .returned (vz (datedV op v u)) ∧ Below w.heap.size w w' := by
  have HCa := Lib.hid (fun w => civil_any v.n w hd.1 hd.2)
  have HAG := Lib.hid (fun w => age_any v.n u.n w hd hdu)
  have HV : Hid (datedV op v u = if op = 37 then numeralV (10000 * (u.n - v.n)) else ageV v.n u.n) := Lib.hid (by unfold datedV; rcases ho with rfl | rfl <;> simp)
  obtain ⟨x, hx⟩ : ∃ x, v.n = x := ⟨_, rfl⟩
  obtain ⟨z, hz⟩ : ∃ x, u.n = x := ⟨_, rfl⟩
  have e1 := hv.c1
  have e2 := hu.c1
  rw [hx] at e1 HCa HAG HV
  rw [hz] at e2 HAG HV
  obtain ⟨kd1, kd2⟩ := hd
  obtain ⟨ku1, ku2⟩ := hdu
  rw [hx] at kd1 kd2
  rw [hz] at ku1 ku2
  obtain ⟨W, hW⟩ : ∃ W, W = w.alloc (.cells #[.int .i64 0, .int .i64 0, .string ⟨#[]⟩, .slice none 0 0] 24 (0, 0)) := ⟨_, rfl⟩
  have hbw : Below w.heap.size w W := hW ▸ below_a w _
  have BR : Blk W w.heap.size 24 #[.int .i64 0, .int .i64 0, .string ⟨#[]⟩, .slice none 0 0] := hW ▸ Blk.new w _ _
  have f1 : W.cell? ⟨b, o + 1, none⟩ = some (.int .i64 x) := (hbw.cell hb).trans e1
  have f2 : W.cell? ⟨b, o + 4 + 1, none⟩ = some (.int .i64 z) := (hbw.cell hb).trans e2
  have HWP := Lib.hid (show IntKind.i64.wrap (10000 * IntKind.i64.wrap (z - x)) = 10000 * (z - x) by simp [IntKind.wrap, IntKind.signed, IntKind.bits]; omega)
  have hn0 : (0 : Int) < (n : Nat) := by omega
  have hn1 : (1 : Int) < (n : Nat) := by omega
  clear hv hu hx hz e1 e2
  rcases ho with rfl | rfl
  · go_enter Tryz.func83, Tryz.ntmps83
    go_upto_region 1 with (fail)
    rw [← hW]
    clear hW
    go_wp2_with (first | (go_at_call 123; refine (HCa.out _).mono ?_; rintro e w1 ⟨rfl, rfl⟩))
    go_region_with (go_at_call 47; refine (numeral_any _ _).mono ?_; rintro e w2 ⟨rfl, hb2⟩; have B0 := BR.drew.below hb2 BR.lt; obtain ⟨r0, s0, r1, s1, r2, s2, r3, s3⟩ := Blk.z4 B0; rw [HWP.out]; unfold vz)
    all_goals go_wp2_with fail
    all_goals exact end4 Tryz.results83 rfl B0 (hbw.trans ((Below.refl _ W).drew.trans hb2 |>.mono hbw.size)) (Nat.le_refl _) (fun W5 hW5 => ⟨ret_val (by rw [HV.out]; simp; rfl), hW5⟩)
  · go_enter Tryz.func83, Tryz.ntmps83
    go_upto_region 1 with (fail)
    rw [← hW]
    clear hW
    go_wp2_with (first | (go_at_call 123; refine (HCa.out _).mono ?_; rintro e w1 ⟨rfl, rfl⟩))
    go_region_with (go_at_call 124; refine (HAG.out _).mono ?_; rintro e w2 ⟨rfl, hb2⟩; have B0 := BR.drew.below hb2 BR.lt; obtain ⟨r0, s0, r1, s1, r2, s2, r3, s3⟩ := Blk.z4 B0; unfold vz)
    all_goals go_wp2_with fail
    all_goals exact end4 Tryz.results83 rfl B0 (hbw.trans ((Below.refl _ W).drew.trans hb2 |>.mono hbw.size)) (Nat.le_refl _) (fun W5 hW5 => ⟨ret_val (by rw [HV.out]; simp; rfl), hW5⟩)
end Go.Proofs.YtpanbeoelbhhgaaGreatDoor
