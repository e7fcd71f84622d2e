/- The walk of primary. -/
import Derived.Test.YtobanldeicclmaaGreatDoorP18
import Derived.Test.YtobanldeicclmaaGreatDoorP19
namespace Go.Proofs.YtobanldeicclmaaGreatDoor
open Go.RowKit Vtx
attribute [local go_sem ↓] Go.wp_at_zero Go.wp_at_succ
noncomputable def constR (x : List UInt8) (a : Nat) (r : List Tok) : Res := match readF x with
  | some v => .ok [constE v] r
  | none => .err a
theorem constantOf_R (g : Nat) (s : ByteArray) (i : Nat) (w : World) (hp : PaAt w g s i) (hm : TM w g) (t : Tok) (r : List Tok) (hL : wordsOf s.data.toList i = t :: r) :
    Calls Tryz.prog 168 #[.pointer (some ⟨g, 0, none⟩)] w fun e w' => PRet w g s (constR (if braceB t.tx then tightT t.tx else t.tx) t.at_ r) e w' := by
  refine (constantOf_any g s i w hp hm t r hL).mono ?_
  intro e w' h
  unfold constR
  obtain ⟨x, hx⟩ : ∃ x, readF (if braceB t.tx then tightT t.tx else t.tx) = x := ⟨_, rfl⟩
  rw [hx] at h ⊢
  cases x <;> exact h
theorem prim_touch {n : Nat} {t : Tok} {r : List Tok} (h : t.touch = true) : Pz n .primary [] (t :: r) = .err t.at_ := by rw [Pz_eq]; dsimp only [stepP]; rw [if_pos h]
theorem prim_const {n : Nat} {t : Tok} {r : List Tok} (h : t.touch = false) (hc : constB t.tx = true) : Pz n .primary [] (t :: r) = constR (if braceB t.tx then tightT t.tx else t.tx) t.at_ r := by rw [Pz_eq]; dsimp only [stepP]; rw [if_neg (by rw [h]; decide), if_pos hc]; unfold constR; cases readF (if braceB t.tx then tightT t.tx else t.tx) <;> rfl
theorem prim_paren {n : Nat} {t : Tok} {r : List Tok} (h : t.touch = false) (hp : t.tx = [40]) : Pz n .primary [] (t :: r) = (Pz n .or [] r).bind fun es l1 => takeF n [41] l1 fun l2 => .ok es l2 := by
  rw [Pz_eq]; dsimp only [stepP]; rw [if_neg (by rw [h]; decide), if_neg (by rw [hp]; decide), if_pos hp]
theorem prim_bad {n : Nat} {t : Tok} {r : List Tok} (h : t.touch = false) (hc : constB t.tx = false) (hp : t.tx ≠ [40]) (hn : nameB t.tx = false) : Pz n .primary [] (t :: r) = .err t.at_ := by
  rw [Pz_eq]; dsimp only [stepP]; rw [if_neg (by rw [h]; decide), if_neg (by rw [hc]; decide), if_neg hp, if_pos hn]
theorem prim_plain {n : Nat} {t : Tok} {r : List Tok} (h : t.touch = false) (hc : constB t.tx = false) (hp : t.tx ≠ [40]) (hn : nameB t.tx = true) (hd : calledB t r = false) : Pz n .primary [] (t :: r) = .ok [nameE 2 0 t.tx []] r := by
  rw [Pz_eq]; dsimp only [stepP]; rw [if_neg (by rw [h]; decide), if_neg (by rw [hc]; decide), if_neg hp, if_neg (by rw [hn]; decide), if_pos hd]
theorem prim_none {n : Nat} {t : Tok} {r : List Tok} (h : t.touch = false) (hc : constB t.tx = false) (hp : t.tx ≠ [40]) (hn : nameB t.tx = true) (hd : calledB t r = true) (ho : overOf t.tx = 0) (hq : opOf t.tx = 0) (hx : t.tx ≠ rowW) : Pz n .primary [] (t :: r) = .ok [nameE 2 0 t.tx []] r := by
  rw [Pz_eq]; dsimp only [stepP]; rw [if_neg (by rw [h]; decide), if_neg (by rw [hc]; decide), if_neg hp, if_neg (by rw [hn]; decide), if_neg (by rw [hd]; decide), if_neg (fun h => h ho), if_neg (fun h => h hq), if_neg hx]
theorem prim_call {n : Nat} {t : Tok} {r : List Tok} (h : t.touch = false) (hc : constB t.tx = false) (hp : t.tx ≠ [40]) (hn : nameB t.tx = true) (hd : calledB t r = true) (hy : ¬ (overOf t.tx = 0 ∧ opOf t.tx = 0 ∧ t.tx ≠ rowW)) : Pz n .primary [] (t :: r) = callF n t.tx r.tail := by
  rw [Pz_eq]; dsimp only [stepP]; rw [if_neg (by rw [h]; decide), if_neg (by rw [hc]; decide), if_neg hp, if_neg (by rw [hn]; decide), if_neg (by rw [hd]; decide)]
  unfold callF
  by_cases ho : overOf t.tx = 0
  · have no : ¬ (overOf t.tx ≠ 0) := fun h => h ho
    rw [if_neg no, if_neg no]
    by_cases hq : opOf t.tx = 0
    · have nq : ¬ (opOf t.tx ≠ 0) := fun h => h hq
      rw [if_neg nq, if_neg nq, if_pos (show t.tx = rowW from Decidable.not_not.1 (fun hx => hy ⟨ho, hq, hx⟩))]
      cases nameAt r.tail <;> rfl
    · have yq : opOf t.tx ≠ 0 := hq
      rw [if_pos yq, if_pos yq]
  · have yo : overOf t.tx ≠ 0 := ho
    rw [if_pos yo, if_pos yo]
    cases nameAt r.tail <;> rfl
theorem call_yes (g : Nat) (s : ByteArray) (i : Nat) (w : World) (hp : PaAt w g s i) (hm : TM w g) (t u : Tok) (r : List Tok) (hL : wordsOf s.data.toList i = t :: u :: r) (hu : u.tx = [40]) (hy : ¬ (overOf t.tx = 0 ∧ opOf t.tx = 0 ∧ t.tx ≠ rowW)) (hP : ∀ L', L'.length ≤ r.length → PSpec 31 .or s L') :
    Calls Tryz.prog 170 #[.pointer (some ⟨g, 0, none⟩), .string (tb t.tx)] w fun e w' => CRet w g s (callF s.data.toList.length t.tx r) e w' := by
  by_cases ho : overOf t.tx = 0
  · by_cases hq : opOf t.tx = 0
    · exact call_row g s i w hp hm t u r hL hu (Decidable.not_not.1 (fun hx => hy ⟨ho, hq, hx⟩)) hP
    · exact call_op g s i w hp hm t u r hL hu ho hq hP
  · exact call_over g s i w hp hm t u r hL hu ho hP
set_option maxHeartbeats 1000000 in
theorem primary_end (g : Nat) (s : ByteArray) (i : Nat) (w : World) (hp : PaAt w g s i) (hL : wordsOf s.data.toList i = []) :
    Calls Tryz.prog 159 #[.pointer (some ⟨g, 0, none⟩)] w fun e w' => PRet w g s (Pz s.data.toList.length .primary [] []) e w' := by
  have HPA := Lib.hid hp
  have hlt := hp.b.lt
  have HW0 := Lib.hid (fun W (hp : PaAt W g s i) => wrong_any g s i W hp)
  have hr : Pz s.data.toList.length .primary [] [] = .err (curAt s i) := by
    rw [Pz_eq]; dsimp only [stepP]
    have h := place_cur s i
    rw [hL] at h
    rw [← h]
    rfl
  have htx : curTx s i = [] := by
    unfold curTx
    cases ht : tokAt s.data.toList i with
    | none => rfl
    | some t => rw [words_eq, ht] at hL; cases hL
  have HTX := Lib.hid htx
  rw [hr]
  clear hr htx hp hL
  go_enter Tryz.func159, Tryz.ntmps159
  go_upto_region 1 with (fail)
  obtain ⟨W, hW⟩ : ∃ W, W = w.alloc (.cells #[.int .i64 0, .int .i64 0, .string ⟨#[]⟩, .int .i64 0, .int .i64 0, .string ⟨#[]⟩, .slice none 0 0, .slice none 0 0] 27 (0, 0)) := ⟨_, rfl⟩
  have hkW : Kp g w W := by rw [hW]; exact (kp_refl g w).alloc _
  have HPW := Lib.hid (show PaAt W g s i by rw [hW]; exact HPA.out.alloc _)
  have BR : Blk W w.heap.size 27 #[.int .i64 0, .int .i64 0, .string ⟨#[]⟩, .int .i64 0, .int .i64 0, .string ⟨#[]⟩, .slice none 0 0, .slice none 0 0] := by rw [hW]; exact Blk.new w _ _
  have hWs : w.heap.size < W.heap.size := BR.lt
  have hszW : W.heap.size = w.heap.size + 1 := by rw [hW]; simp
  have HBR := Lib.hid BR
  rw [← hW]
  clear hW BR
  have d2 : W.cell? ⟨g, 2, none⟩ = some (.string ⟨#[]⟩) := by have h := HPW.out.b.cell 2; rw [HTX.out] at h; exact h
  go_wp2_with (go_at_call 32; (with_reducible refine (HW0.out _ HPW.out).mono ?_); rintro e w1 ⟨rfl, rfl⟩)
  exact ⟨rfl, rfl, hkW⟩
set_option maxHeartbeats 8000000 in
set_option maxRecDepth 100000 in
theorem primary_touch (g : Nat) (s : ByteArray) (i : Nat) (w : World) (hp : PaAt w g s i) (hm : TM w g) (t : Tok) (r : List Tok) (hL : wordsOf s.data.toList i = t :: r) (ht : t.touch = true) :
    Calls Tryz.prog 159 #[.pointer (some ⟨g, 0, none⟩)] w fun e w' => PRet w g s (Pz s.data.toList.length .primary [] (t :: r)) e w' := by
  have HPA := Lib.hid hp
  have HM := Lib.hid hm
  have hlt := hp.b.lt
  have hs4 := hp.s
  have hwt := word_tok hL
  obtain ⟨ea, et, eh⟩ := cur_of hwt.1
  obtain ⟨tl, htx, h32⟩ := tok_head hwt.1
  obtain ⟨c0, hc0⟩ : ∃ c, s.data.toList.getD t.at_ 0 = c := ⟨_, rfl⟩
  rw [hc0] at htx
  have hul := tok_in hwt.1
  rw [data_len] at hul
  have HTR := Lib.hid (show r = wordsOf s.data.toList (curAt s i + (curTx s i).length) by rw [ea, et]; exact hwt.2)
  have HTA := Lib.hid (show t.at_ = curAt s i from ea.symm)
  have HTK := Lib.hid hwt.1
  have HLL := Lib.hid hL
  obtain ⟨v, hv⟩ : ∃ v, tb t.tx = v := ⟨_, rfl⟩
  have HV := Lib.hid hv
  have HTV := Lib.hid (show tb (curTx s i) = v by rw [et]; exact hv)
  have HTT := Lib.hid eh
  have hu0 : 0 < v.size := by rw [← hv, tb_size, htx]; simp
  have hu1 : v[0] = c0 := by
    subst hv
    have h1 : (tb t.tx).data.toList[0]? = some c0 := by rw [tb_data, htx]; rfl
    have h2 : (tb t.tx).data.toList[0]? = some (tb t.tx)[0] := by
      rw [List.getElem?_eq_getElem (by rw [data_len]; exact hu0)]; rfl
    rw [h2] at h1
    injection h1
  have hem : v.toList.isEmpty = false := by
    cases h : v.toList.isEmpty with
    | false => rfl
    | true =>
      have h1 : v.toList = [] := List.isEmpty_iff.1 h
      have h2 : (v.toList == (⟨#[]⟩ : ByteArray).toList) = true := by rw [h1]; simp
      have h3 : (v.toList == (⟨#[]⟩ : ByteArray).toList) = false := strEq_false (fun e => by rw [e] at hu0; exact absurd hu0 (by decide))
      rw [h3] at h2; cases h2
  have HDG := Lib.hid (show ∀ w', Calls Tryz.prog 80 #[.int .u8 (v[0].toNat : Nat)] w' fun e w'' => e = .returned (.bool (digB c0)) ∧ w' = w'' from fun w' => by rw [hu1]; exact isDigit_any c0 w')
  have HLW := Lib.hid (show ∀ w', Calls Tryz.prog 78 #[.int .u8 (v[0].toNat : Nat)] w' fun e w'' => e = .returned (.bool (lowB c0)) ∧ w' = w'' from fun w' => by rw [hu1]; exact isLower_any c0 w')
  have HRV := Lib.hid (show ∀ w', Calls Tryz.prog 100 #[.string v] w' fun e w'' => e = .returned (.bool (reservedL.contains t.tx)) ∧ w' = w'' from fun w' => by
    have h1 := isReserved_any v w'
    rwa [show v.data.toList = t.tx from by rw [← hv, tb_data]] at h1)
  have HW0 := Lib.hid (fun W (hp : PaAt W g s i) => wrong_any g s i W hp)
  have hcb : constB t.tx = ((digB c0 || decide (c0 = 64) || decide (c0 = 35) || decide (c0 = 39) || decide (c0 = 123)) || decide (t.tx = trueT) || decide (t.tx = falseT)) := by
    unfold constB
    congr 1
    congr 1
    rw [htx]
  have hnb : nameB t.tx = (lowB c0 && !reservedL.contains t.tx) := by
    unfold nameB
    congr 1
    rw [htx]
  have hstr : ∀ l : List UInt8, t.tx = l → (v.toList == (tb l).toList) = true := fun l h => strEq_true (by rw [← hv, h])
  have hstr' : ∀ l : List UInt8, t.tx ≠ l → (v.toList == (tb l).toList) = false := fun l h => strEq_false (fun e => h (tb_inj (by rw [hv, e])))
  rw [prim_touch ht, HTA.out]
  rw [ht] at HTT
  clear hu1 hcb hnb hstr hstr' hwt ea et eh htx h32 hc0 hul hv hL hp hm
  go_enter Tryz.func159, Tryz.ntmps159
  go_upto_region 1 with (fail)
  obtain ⟨W, hW⟩ : ∃ W, W = w.alloc (.cells #[.int .i64 0, .int .i64 0, .string ⟨#[]⟩, .int .i64 0, .int .i64 0, .string ⟨#[]⟩, .slice none 0 0, .slice none 0 0] 27 (0, 0)) := ⟨_, rfl⟩
  have hkW : Kp g w W := by rw [hW]; exact (kp_refl g w).alloc _
  have HPW := Lib.hid (show PaAt W g s i by rw [hW]; exact HPA.out.alloc _)
  have HMW := Lib.hid (HM.out.kp hkW)
  have BR : Blk W w.heap.size 27 #[.int .i64 0, .int .i64 0, .string ⟨#[]⟩, .int .i64 0, .int .i64 0, .string ⟨#[]⟩, .slice none 0 0, .slice none 0 0] := by rw [hW]; exact Blk.new w _ _
  have hWs : w.heap.size < W.heap.size := BR.lt
  have hszW : W.heap.size = w.heap.size + 1 := by rw [hW]; simp
  have HBR := Lib.hid BR
  rw [← hW]
  clear hW BR
  have d2 : W.cell? ⟨g, 2, none⟩ = some (.string v) := by have h := HPW.out.b.cell 2; rw [show tb (curTx s i) = v from HTV.out] at h; exact h
  have d3 : W.cell? ⟨g, 3, none⟩ = some (.bool true) := by have h := HPW.out.b.cell 3; rw [HTT.out] at h; exact h
  go_wp2_with (go_at_call 32; (with_reducible refine (HW0.out _ HPW.out).mono ?_); rintro e w1 ⟨rfl, rfl⟩)
  exact ⟨rfl, rfl, hkW⟩
set_option maxHeartbeats 8000000 in
set_option maxRecDepth 100000 in
theorem primary_const (g : Nat) (s : ByteArray) (i : Nat) (w : World) (hp : PaAt w g s i) (hm : TM w g) (t : Tok) (r : List Tok) (hL : wordsOf s.data.toList i = t :: r) (ht : t.touch = false) (hc : constB t.tx = true) :
    Calls Tryz.prog 159 #[.pointer (some ⟨g, 0, none⟩)] w fun e w' => PRet w g s (Pz s.data.toList.length .primary [] (t :: r)) e w' := by
  have HPA := Lib.hid hp
  have HM := Lib.hid hm
  have hlt := hp.b.lt
  have hs4 := hp.s
  have hwt := word_tok hL
  obtain ⟨ea, et, eh⟩ := cur_of hwt.1
  obtain ⟨tl, htx, h32⟩ := tok_head hwt.1
  obtain ⟨c0, hc0⟩ : ∃ c, s.data.toList.getD t.at_ 0 = c := ⟨_, rfl⟩
  rw [hc0] at htx
  have hul := tok_in hwt.1
  rw [data_len] at hul
  have HTR := Lib.hid (show r = wordsOf s.data.toList (curAt s i + (curTx s i).length) by rw [ea, et]; exact hwt.2)
  have HTA := Lib.hid (show t.at_ = curAt s i from ea.symm)
  have HTK := Lib.hid hwt.1
  have HLL := Lib.hid hL
  obtain ⟨v, hv⟩ : ∃ v, tb t.tx = v := ⟨_, rfl⟩
  have HV := Lib.hid hv
  have HTV := Lib.hid (show tb (curTx s i) = v by rw [et]; exact hv)
  have HTT := Lib.hid eh
  have hu0 : 0 < v.size := by rw [← hv, tb_size, htx]; simp
  have hu1 : v[0] = c0 := by
    subst hv
    have h1 : (tb t.tx).data.toList[0]? = some c0 := by rw [tb_data, htx]; rfl
    have h2 : (tb t.tx).data.toList[0]? = some (tb t.tx)[0] := by
      rw [List.getElem?_eq_getElem (by rw [data_len]; exact hu0)]; rfl
    rw [h2] at h1
    injection h1
  have hem : v.toList.isEmpty = false := by
    cases h : v.toList.isEmpty with
    | false => rfl
    | true =>
      have h1 : v.toList = [] := List.isEmpty_iff.1 h
      have h2 : (v.toList == (⟨#[]⟩ : ByteArray).toList) = true := by rw [h1]; simp
      have h3 : (v.toList == (⟨#[]⟩ : ByteArray).toList) = false := strEq_false (fun e => by rw [e] at hu0; exact absurd hu0 (by decide))
      rw [h3] at h2; cases h2
  have HDG := Lib.hid (show ∀ w', Calls Tryz.prog 80 #[.int .u8 (v[0].toNat : Nat)] w' fun e w'' => e = .returned (.bool (digB c0)) ∧ w' = w'' from fun w' => by rw [hu1]; exact isDigit_any c0 w')
  have HLW := Lib.hid (show ∀ w', Calls Tryz.prog 78 #[.int .u8 (v[0].toNat : Nat)] w' fun e w'' => e = .returned (.bool (lowB c0)) ∧ w' = w'' from fun w' => by rw [hu1]; exact isLower_any c0 w')
  have HRV := Lib.hid (show ∀ w', Calls Tryz.prog 100 #[.string v] w' fun e w'' => e = .returned (.bool (reservedL.contains t.tx)) ∧ w' = w'' from fun w' => by
    have h1 := isReserved_any v w'
    rwa [show v.data.toList = t.tx from by rw [← hv, tb_data]] at h1)
  have HW0 := Lib.hid (fun W (hp : PaAt W g s i) => wrong_any g s i W hp)
  have hcb : constB t.tx = ((digB c0 || decide (c0 = 64) || decide (c0 = 35) || decide (c0 = 39) || decide (c0 = 123)) || decide (t.tx = trueT) || decide (t.tx = falseT)) := by
    unfold constB
    congr 1
    congr 1
    rw [htx]
  have hnb : nameB t.tx = (lowB c0 && !reservedL.contains t.tx) := by
    unfold nameB
    congr 1
    rw [htx]
  have hstr : ∀ l : List UInt8, t.tx = l → (v.toList == (tb l).toList) = true := fun l h => strEq_true (by rw [← hv, h])
  have hstr' : ∀ l : List UInt8, t.tx ≠ l → (v.toList == (tb l).toList) = false := fun l h => strEq_false (fun e => h (tb_inj (by rw [hv, e])))
  rw [prim_const ht hc]
  rw [ht] at HTT
  obtain ⟨R, hR⟩ : ∃ R, constR (if braceB t.tx then tightT t.tx else t.tx) t.at_ r = R := ⟨_, rfl⟩
  have HRR := Lib.hid hR
  rw [hR]
  rw [hcb] at hc
  simp only [Bool.or_eq_true, decide_eq_true_iff] at hc
  clear hR
  by_cases h0 : digB c0 = true
  · rw [h0] at HDG
    clear hu1 hcb hnb hstr hstr' hwt ea et eh htx h32 hc0 hul hv hp hm
    go_enter Tryz.func159, Tryz.ntmps159
    go_upto_region 1 with (fail)
    obtain ⟨W, hW⟩ : ∃ W, W = w.alloc (.cells #[.int .i64 0, .int .i64 0, .string ⟨#[]⟩, .int .i64 0, .int .i64 0, .string ⟨#[]⟩, .slice none 0 0, .slice none 0 0] 27 (0, 0)) := ⟨_, rfl⟩
    have hkW : Kp g w W := by rw [hW]; exact (kp_refl g w).alloc _
    have HPW := Lib.hid (show PaAt W g s i by rw [hW]; exact HPA.out.alloc _)
    have HMW := Lib.hid (HM.out.kp hkW)
    have BR : Blk W w.heap.size 27 #[.int .i64 0, .int .i64 0, .string ⟨#[]⟩, .int .i64 0, .int .i64 0, .string ⟨#[]⟩, .slice none 0 0, .slice none 0 0] := by rw [hW]; exact Blk.new w _ _
    have hWs : w.heap.size < W.heap.size := BR.lt
    have hszW : W.heap.size = w.heap.size + 1 := by rw [hW]; simp
    have HBR := Lib.hid BR
    rw [← hW]
    clear hW BR
    have d2 : W.cell? ⟨g, 2, none⟩ = some (.string v) := by have h := HPW.out.b.cell 2; rw [show tb (curTx s i) = v from HTV.out] at h; exact h
    have d3 : W.cell? ⟨g, 3, none⟩ = some (.bool false) := by have h := HPW.out.b.cell 3; rw [HTT.out] at h; exact h
    go_wp2_with (go_at_call 80; (with_reducible refine (HDG.out _).mono ?_); rintro e w1 ⟨rfl, rfl⟩)
    refine (constantOf_R g s i W HPW.out HMW.out t r HLL.out).mono ?_
    rw [HRR.out]
    cases R with
    | err k =>
      rintro e w1 ⟨rfl, hk1⟩
      go_wp2_with fail
      exact ⟨rfl, rfl, hkW.trans hk1⟩
    | ok es l1 =>
      rintro e w1 ⟨y, i1, cs1, rfl, rfl, rfl, hx1, hp1, hk1⟩
      have HX1 := Lib.hid hx1
      obtain ⟨hn1, hs1, hl1, ha1, hxx1, hrr1, hii1⟩ := hx1
      rename_i A1 c1 A2 c2 csi1
      clear hxx1 hrr1 hii1 hn1 hs1 hl1 ha1
      have exa1 : (exCells y A1 c1 A2 c2).toArray = #[.int .i64 y.k, .int .i64 y.op, .string y.nm, .int .i64 y.v.k, .int .i64 y.v.n, .string y.v.s, .slice A1 y.v.l.length c1, .slice A2 y.ar.length c2] := rfl
      rw [exa1]
      clear exa1
      have B1 := HBR.out.kp hk1 (by omega)
      have rc0 : w1.cell? ⟨w.heap.size, 0, none⟩ = some (.int .i64 0) := B1.cell 0
      have rz0 : w1.frozen? ⟨w.heap.size, 0, none⟩ = false := B1.frozen 0
      have rc1 : w1.cell? ⟨w.heap.size, 1, none⟩ = some (.int .i64 0) := B1.cell 1
      have rz1 : w1.frozen? ⟨w.heap.size, 1, none⟩ = false := B1.frozen 1
      have rc2 : w1.cell? ⟨w.heap.size, 2, none⟩ = some (.string ⟨#[]⟩) := B1.cell 2
      have rz2 : w1.frozen? ⟨w.heap.size, 2, none⟩ = false := B1.frozen 2
      have rc3 : w1.cell? ⟨w.heap.size, 3, none⟩ = some (.int .i64 0) := B1.cell 3
      have rz3 : w1.frozen? ⟨w.heap.size, 3, none⟩ = false := B1.frozen 3
      have rc4 : w1.cell? ⟨w.heap.size, 4, none⟩ = some (.int .i64 0) := B1.cell 4
      have rz4 : w1.frozen? ⟨w.heap.size, 4, none⟩ = false := B1.frozen 4
      have rc5 : w1.cell? ⟨w.heap.size, 5, none⟩ = some (.string ⟨#[]⟩) := B1.cell 5
      have rz5 : w1.frozen? ⟨w.heap.size, 5, none⟩ = false := B1.frozen 5
      have rc6 : w1.cell? ⟨w.heap.size, 6, none⟩ = some (.slice none 0 0) := B1.cell 6
      have rz6 : w1.frozen? ⟨w.heap.size, 6, none⟩ = false := B1.frozen 6
      have rc7 : w1.cell? ⟨w.heap.size, 7, none⟩ = some (.slice none 0 0) := B1.cell 7
      have rz7 : w1.frozen? ⟨w.heap.size, 7, none⟩ = false := B1.frozen 7
      go_wp2_with fail
      refine bodyPost_ret (v := .agg #[.int .i64 y.k, .int .i64 y.op, .string y.nm, .int .i64 y.v.k, .int .i64 y.v.n, .string y.v.s, .slice A1 y.v.l.length c1, .slice A2 y.ar.length c2]) (by simp [results, Tryz.results159, go_sem, rc0, rc1, rc2, rc3, rc4, rc5, rc6, rc7]) rfl ?_
      exact ret8 HX1.out hWs hlt hp1 (hkW.trans hk1)
  by_cases h64 : c0 = 64
  · rw [Bool.eq_false_iff.2 h0] at HDG
    have q64 : ((v[0].toNat : Int) == 64) = true := by rw [hu1, h64]; rfl
    have p64 : (v[0].toNat == 64) = true := by rw [hu1, h64]; rfl
    clear hu1 hcb hnb hstr hstr' hwt ea et eh htx h32 hc0 hul hv hp hm
    go_enter Tryz.func159, Tryz.ntmps159
    go_upto_region 1 with (fail)
    obtain ⟨W, hW⟩ : ∃ W, W = w.alloc (.cells #[.int .i64 0, .int .i64 0, .string ⟨#[]⟩, .int .i64 0, .int .i64 0, .string ⟨#[]⟩, .slice none 0 0, .slice none 0 0] 27 (0, 0)) := ⟨_, rfl⟩
    have hkW : Kp g w W := by rw [hW]; exact (kp_refl g w).alloc _
    have HPW := Lib.hid (show PaAt W g s i by rw [hW]; exact HPA.out.alloc _)
    have HMW := Lib.hid (HM.out.kp hkW)
    have BR : Blk W w.heap.size 27 #[.int .i64 0, .int .i64 0, .string ⟨#[]⟩, .int .i64 0, .int .i64 0, .string ⟨#[]⟩, .slice none 0 0, .slice none 0 0] := by rw [hW]; exact Blk.new w _ _
    have hWs : w.heap.size < W.heap.size := BR.lt
    have hszW : W.heap.size = w.heap.size + 1 := by rw [hW]; simp
    have HBR := Lib.hid BR
    rw [← hW]
    clear hW BR
    have d2 : W.cell? ⟨g, 2, none⟩ = some (.string v) := by have h := HPW.out.b.cell 2; rw [show tb (curTx s i) = v from HTV.out] at h; exact h
    have d3 : W.cell? ⟨g, 3, none⟩ = some (.bool false) := by have h := HPW.out.b.cell 3; rw [HTT.out] at h; exact h
    go_wp2_with (go_at_call 80; (with_reducible refine (HDG.out _).mono ?_); rintro e w1 ⟨rfl, rfl⟩)
    refine (constantOf_R g s i W HPW.out HMW.out t r HLL.out).mono ?_
    rw [HRR.out]
    cases R with
    | err k =>
      rintro e w1 ⟨rfl, hk1⟩
      go_wp2_with fail
      exact ⟨rfl, rfl, hkW.trans hk1⟩
    | ok es l1 =>
      rintro e w1 ⟨y, i1, cs1, rfl, rfl, rfl, hx1, hp1, hk1⟩
      have HX1 := Lib.hid hx1
      obtain ⟨hn1, hs1, hl1, ha1, hxx1, hrr1, hii1⟩ := hx1
      rename_i A1 c1 A2 c2 csi1
      clear hxx1 hrr1 hii1 hn1 hs1 hl1 ha1
      have exa1 : (exCells y A1 c1 A2 c2).toArray = #[.int .i64 y.k, .int .i64 y.op, .string y.nm, .int .i64 y.v.k, .int .i64 y.v.n, .string y.v.s, .slice A1 y.v.l.length c1, .slice A2 y.ar.length c2] := rfl
      rw [exa1]
      clear exa1
      have B1 := HBR.out.kp hk1 (by omega)
      have rc0 : w1.cell? ⟨w.heap.size, 0, none⟩ = some (.int .i64 0) := B1.cell 0
      have rz0 : w1.frozen? ⟨w.heap.size, 0, none⟩ = false := B1.frozen 0
      have rc1 : w1.cell? ⟨w.heap.size, 1, none⟩ = some (.int .i64 0) := B1.cell 1
      have rz1 : w1.frozen? ⟨w.heap.size, 1, none⟩ = false := B1.frozen 1
      have rc2 : w1.cell? ⟨w.heap.size, 2, none⟩ = some (.string ⟨#[]⟩) := B1.cell 2
      have rz2 : w1.frozen? ⟨w.heap.size, 2, none⟩ = false := B1.frozen 2
      have rc3 : w1.cell? ⟨w.heap.size, 3, none⟩ = some (.int .i64 0) := B1.cell 3
      have rz3 : w1.frozen? ⟨w.heap.size, 3, none⟩ = false := B1.frozen 3
      have rc4 : w1.cell? ⟨w.heap.size, 4, none⟩ = some (.int .i64 0) := B1.cell 4
      have rz4 : w1.frozen? ⟨w.heap.size, 4, none⟩ = false := B1.frozen 4
      have rc5 : w1.cell? ⟨w.heap.size, 5, none⟩ = some (.string ⟨#[]⟩) := B1.cell 5
      have rz5 : w1.frozen? ⟨w.heap.size, 5, none⟩ = false := B1.frozen 5
      have rc6 : w1.cell? ⟨w.heap.size, 6, none⟩ = some (.slice none 0 0) := B1.cell 6
      have rz6 : w1.frozen? ⟨w.heap.size, 6, none⟩ = false := B1.frozen 6
      have rc7 : w1.cell? ⟨w.heap.size, 7, none⟩ = some (.slice none 0 0) := B1.cell 7
      have rz7 : w1.frozen? ⟨w.heap.size, 7, none⟩ = false := B1.frozen 7
      go_wp2_with fail
      refine bodyPost_ret (v := .agg #[.int .i64 y.k, .int .i64 y.op, .string y.nm, .int .i64 y.v.k, .int .i64 y.v.n, .string y.v.s, .slice A1 y.v.l.length c1, .slice A2 y.ar.length c2]) (by simp [results, Tryz.results159, go_sem, rc0, rc1, rc2, rc3, rc4, rc5, rc6, rc7]) rfl ?_
      exact ret8 HX1.out hWs hlt hp1 (hkW.trans hk1)
  by_cases h35 : c0 = 35
  · rw [Bool.eq_false_iff.2 h0] at HDG
    have q64 : ((v[0].toNat : Int) == 64) = false := by
      have h1 : v[0].toNat ≠ 64 := fun e => h64 (by rw [← hu1]; exact UInt8.toNat_inj.1 e)
      simp; omega
    have p64 : (v[0].toNat == 64) = false := by
      have h1 : v[0].toNat ≠ 64 := fun e => h64 (by rw [← hu1]; exact UInt8.toNat_inj.1 e)
      simp; omega
    have q35 : ((v[0].toNat : Int) == 35) = true := by rw [hu1, h35]; rfl
    have p35 : (v[0].toNat == 35) = true := by rw [hu1, h35]; rfl
    clear hu1 hcb hnb hstr hstr' hwt ea et eh htx h32 hc0 hul hv hp hm
    go_enter Tryz.func159, Tryz.ntmps159
    go_upto_region 1 with (fail)
    obtain ⟨W, hW⟩ : ∃ W, W = w.alloc (.cells #[.int .i64 0, .int .i64 0, .string ⟨#[]⟩, .int .i64 0, .int .i64 0, .string ⟨#[]⟩, .slice none 0 0, .slice none 0 0] 27 (0, 0)) := ⟨_, rfl⟩
    have hkW : Kp g w W := by rw [hW]; exact (kp_refl g w).alloc _
    have HPW := Lib.hid (show PaAt W g s i by rw [hW]; exact HPA.out.alloc _)
    have HMW := Lib.hid (HM.out.kp hkW)
    have BR : Blk W w.heap.size 27 #[.int .i64 0, .int .i64 0, .string ⟨#[]⟩, .int .i64 0, .int .i64 0, .string ⟨#[]⟩, .slice none 0 0, .slice none 0 0] := by rw [hW]; exact Blk.new w _ _
    have hWs : w.heap.size < W.heap.size := BR.lt
    have hszW : W.heap.size = w.heap.size + 1 := by rw [hW]; simp
    have HBR := Lib.hid BR
    rw [← hW]
    clear hW BR
    have d2 : W.cell? ⟨g, 2, none⟩ = some (.string v) := by have h := HPW.out.b.cell 2; rw [show tb (curTx s i) = v from HTV.out] at h; exact h
    have d3 : W.cell? ⟨g, 3, none⟩ = some (.bool false) := by have h := HPW.out.b.cell 3; rw [HTT.out] at h; exact h
    go_wp2_with (go_at_call 80; (with_reducible refine (HDG.out _).mono ?_); rintro e w1 ⟨rfl, rfl⟩)
    refine (constantOf_R g s i W HPW.out HMW.out t r HLL.out).mono ?_
    rw [HRR.out]
    cases R with
    | err k =>
      rintro e w1 ⟨rfl, hk1⟩
      go_wp2_with fail
      exact ⟨rfl, rfl, hkW.trans hk1⟩
    | ok es l1 =>
      rintro e w1 ⟨y, i1, cs1, rfl, rfl, rfl, hx1, hp1, hk1⟩
      have HX1 := Lib.hid hx1
      obtain ⟨hn1, hs1, hl1, ha1, hxx1, hrr1, hii1⟩ := hx1
      rename_i A1 c1 A2 c2 csi1
      clear hxx1 hrr1 hii1 hn1 hs1 hl1 ha1
      have exa1 : (exCells y A1 c1 A2 c2).toArray = #[.int .i64 y.k, .int .i64 y.op, .string y.nm, .int .i64 y.v.k, .int .i64 y.v.n, .string y.v.s, .slice A1 y.v.l.length c1, .slice A2 y.ar.length c2] := rfl
      rw [exa1]
      clear exa1
      have B1 := HBR.out.kp hk1 (by omega)
      have rc0 : w1.cell? ⟨w.heap.size, 0, none⟩ = some (.int .i64 0) := B1.cell 0
      have rz0 : w1.frozen? ⟨w.heap.size, 0, none⟩ = false := B1.frozen 0
      have rc1 : w1.cell? ⟨w.heap.size, 1, none⟩ = some (.int .i64 0) := B1.cell 1
      have rz1 : w1.frozen? ⟨w.heap.size, 1, none⟩ = false := B1.frozen 1
      have rc2 : w1.cell? ⟨w.heap.size, 2, none⟩ = some (.string ⟨#[]⟩) := B1.cell 2
      have rz2 : w1.frozen? ⟨w.heap.size, 2, none⟩ = false := B1.frozen 2
      have rc3 : w1.cell? ⟨w.heap.size, 3, none⟩ = some (.int .i64 0) := B1.cell 3
      have rz3 : w1.frozen? ⟨w.heap.size, 3, none⟩ = false := B1.frozen 3
      have rc4 : w1.cell? ⟨w.heap.size, 4, none⟩ = some (.int .i64 0) := B1.cell 4
      have rz4 : w1.frozen? ⟨w.heap.size, 4, none⟩ = false := B1.frozen 4
      have rc5 : w1.cell? ⟨w.heap.size, 5, none⟩ = some (.string ⟨#[]⟩) := B1.cell 5
      have rz5 : w1.frozen? ⟨w.heap.size, 5, none⟩ = false := B1.frozen 5
      have rc6 : w1.cell? ⟨w.heap.size, 6, none⟩ = some (.slice none 0 0) := B1.cell 6
      have rz6 : w1.frozen? ⟨w.heap.size, 6, none⟩ = false := B1.frozen 6
      have rc7 : w1.cell? ⟨w.heap.size, 7, none⟩ = some (.slice none 0 0) := B1.cell 7
      have rz7 : w1.frozen? ⟨w.heap.size, 7, none⟩ = false := B1.frozen 7
      go_wp2_with fail
      refine bodyPost_ret (v := .agg #[.int .i64 y.k, .int .i64 y.op, .string y.nm, .int .i64 y.v.k, .int .i64 y.v.n, .string y.v.s, .slice A1 y.v.l.length c1, .slice A2 y.ar.length c2]) (by simp [results, Tryz.results159, go_sem, rc0, rc1, rc2, rc3, rc4, rc5, rc6, rc7]) rfl ?_
      exact ret8 HX1.out hWs hlt hp1 (hkW.trans hk1)
  by_cases h39 : c0 = 39
  · rw [Bool.eq_false_iff.2 h0] at HDG
    have q64 : ((v[0].toNat : Int) == 64) = false := by
      have h1 : v[0].toNat ≠ 64 := fun e => h64 (by rw [← hu1]; exact UInt8.toNat_inj.1 e)
      simp; omega
    have p64 : (v[0].toNat == 64) = false := by
      have h1 : v[0].toNat ≠ 64 := fun e => h64 (by rw [← hu1]; exact UInt8.toNat_inj.1 e)
      simp; omega
    have q35 : ((v[0].toNat : Int) == 35) = false := by
      have h1 : v[0].toNat ≠ 35 := fun e => h35 (by rw [← hu1]; exact UInt8.toNat_inj.1 e)
      simp; omega
    have p35 : (v[0].toNat == 35) = false := by
      have h1 : v[0].toNat ≠ 35 := fun e => h35 (by rw [← hu1]; exact UInt8.toNat_inj.1 e)
      simp; omega
    have q39 : ((v[0].toNat : Int) == 39) = true := by rw [hu1, h39]; rfl
    have p39 : (v[0].toNat == 39) = true := by rw [hu1, h39]; rfl
    clear hu1 hcb hnb hstr hstr' hwt ea et eh htx h32 hc0 hul hv hp hm
    go_enter Tryz.func159, Tryz.ntmps159
    go_upto_region 1 with (fail)
    obtain ⟨W, hW⟩ : ∃ W, W = w.alloc (.cells #[.int .i64 0, .int .i64 0, .string ⟨#[]⟩, .int .i64 0, .int .i64 0, .string ⟨#[]⟩, .slice none 0 0, .slice none 0 0] 27 (0, 0)) := ⟨_, rfl⟩
    have hkW : Kp g w W := by rw [hW]; exact (kp_refl g w).alloc _
    have HPW := Lib.hid (show PaAt W g s i by rw [hW]; exact HPA.out.alloc _)
    have HMW := Lib.hid (HM.out.kp hkW)
    have BR : Blk W w.heap.size 27 #[.int .i64 0, .int .i64 0, .string ⟨#[]⟩, .int .i64 0, .int .i64 0, .string ⟨#[]⟩, .slice none 0 0, .slice none 0 0] := by rw [hW]; exact Blk.new w _ _
    have hWs : w.heap.size < W.heap.size := BR.lt
    have hszW : W.heap.size = w.heap.size + 1 := by rw [hW]; simp
    have HBR := Lib.hid BR
    rw [← hW]
    clear hW BR
    have d2 : W.cell? ⟨g, 2, none⟩ = some (.string v) := by have h := HPW.out.b.cell 2; rw [show tb (curTx s i) = v from HTV.out] at h; exact h
    have d3 : W.cell? ⟨g, 3, none⟩ = some (.bool false) := by have h := HPW.out.b.cell 3; rw [HTT.out] at h; exact h
    go_wp2_with (go_at_call 80; (with_reducible refine (HDG.out _).mono ?_); rintro e w1 ⟨rfl, rfl⟩)
    refine (constantOf_R g s i W HPW.out HMW.out t r HLL.out).mono ?_
    rw [HRR.out]
    cases R with
    | err k =>
      rintro e w1 ⟨rfl, hk1⟩
      go_wp2_with fail
      exact ⟨rfl, rfl, hkW.trans hk1⟩
    | ok es l1 =>
      rintro e w1 ⟨y, i1, cs1, rfl, rfl, rfl, hx1, hp1, hk1⟩
      have HX1 := Lib.hid hx1
      obtain ⟨hn1, hs1, hl1, ha1, hxx1, hrr1, hii1⟩ := hx1
      rename_i A1 c1 A2 c2 csi1
      clear hxx1 hrr1 hii1 hn1 hs1 hl1 ha1
      have exa1 : (exCells y A1 c1 A2 c2).toArray = #[.int .i64 y.k, .int .i64 y.op, .string y.nm, .int .i64 y.v.k, .int .i64 y.v.n, .string y.v.s, .slice A1 y.v.l.length c1, .slice A2 y.ar.length c2] := rfl
      rw [exa1]
      clear exa1
      have B1 := HBR.out.kp hk1 (by omega)
      have rc0 : w1.cell? ⟨w.heap.size, 0, none⟩ = some (.int .i64 0) := B1.cell 0
      have rz0 : w1.frozen? ⟨w.heap.size, 0, none⟩ = false := B1.frozen 0
      have rc1 : w1.cell? ⟨w.heap.size, 1, none⟩ = some (.int .i64 0) := B1.cell 1
      have rz1 : w1.frozen? ⟨w.heap.size, 1, none⟩ = false := B1.frozen 1
      have rc2 : w1.cell? ⟨w.heap.size, 2, none⟩ = some (.string ⟨#[]⟩) := B1.cell 2
      have rz2 : w1.frozen? ⟨w.heap.size, 2, none⟩ = false := B1.frozen 2
      have rc3 : w1.cell? ⟨w.heap.size, 3, none⟩ = some (.int .i64 0) := B1.cell 3
      have rz3 : w1.frozen? ⟨w.heap.size, 3, none⟩ = false := B1.frozen 3
      have rc4 : w1.cell? ⟨w.heap.size, 4, none⟩ = some (.int .i64 0) := B1.cell 4
      have rz4 : w1.frozen? ⟨w.heap.size, 4, none⟩ = false := B1.frozen 4
      have rc5 : w1.cell? ⟨w.heap.size, 5, none⟩ = some (.string ⟨#[]⟩) := B1.cell 5
      have rz5 : w1.frozen? ⟨w.heap.size, 5, none⟩ = false := B1.frozen 5
      have rc6 : w1.cell? ⟨w.heap.size, 6, none⟩ = some (.slice none 0 0) := B1.cell 6
      have rz6 : w1.frozen? ⟨w.heap.size, 6, none⟩ = false := B1.frozen 6
      have rc7 : w1.cell? ⟨w.heap.size, 7, none⟩ = some (.slice none 0 0) := B1.cell 7
      have rz7 : w1.frozen? ⟨w.heap.size, 7, none⟩ = false := B1.frozen 7
      go_wp2_with fail
      refine bodyPost_ret (v := .agg #[.int .i64 y.k, .int .i64 y.op, .string y.nm, .int .i64 y.v.k, .int .i64 y.v.n, .string y.v.s, .slice A1 y.v.l.length c1, .slice A2 y.ar.length c2]) (by simp [results, Tryz.results159, go_sem, rc0, rc1, rc2, rc3, rc4, rc5, rc6, rc7]) rfl ?_
      exact ret8 HX1.out hWs hlt hp1 (hkW.trans hk1)
  by_cases h123 : c0 = 123
  · rw [Bool.eq_false_iff.2 h0] at HDG
    have q64 : ((v[0].toNat : Int) == 64) = false := by
      have h1 : v[0].toNat ≠ 64 := fun e => h64 (by rw [← hu1]; exact UInt8.toNat_inj.1 e)
      simp; omega
    have p64 : (v[0].toNat == 64) = false := by
      have h1 : v[0].toNat ≠ 64 := fun e => h64 (by rw [← hu1]; exact UInt8.toNat_inj.1 e)
      simp; omega
    have q35 : ((v[0].toNat : Int) == 35) = false := by
      have h1 : v[0].toNat ≠ 35 := fun e => h35 (by rw [← hu1]; exact UInt8.toNat_inj.1 e)
      simp; omega
    have p35 : (v[0].toNat == 35) = false := by
      have h1 : v[0].toNat ≠ 35 := fun e => h35 (by rw [← hu1]; exact UInt8.toNat_inj.1 e)
      simp; omega
    have q39 : ((v[0].toNat : Int) == 39) = false := by
      have h1 : v[0].toNat ≠ 39 := fun e => h39 (by rw [← hu1]; exact UInt8.toNat_inj.1 e)
      simp; omega
    have p39 : (v[0].toNat == 39) = false := by
      have h1 : v[0].toNat ≠ 39 := fun e => h39 (by rw [← hu1]; exact UInt8.toNat_inj.1 e)
      simp; omega
    have q123 : ((v[0].toNat : Int) == 123) = true := by rw [hu1, h123]; rfl
    have p123 : (v[0].toNat == 123) = true := by rw [hu1, h123]; rfl
    clear hu1 hcb hnb hstr hstr' hwt ea et eh htx h32 hc0 hul hv hp hm
    go_enter Tryz.func159, Tryz.ntmps159
    go_upto_region 1 with (fail)
    obtain ⟨W, hW⟩ : ∃ W, W = w.alloc (.cells #[.int .i64 0, .int .i64 0, .string ⟨#[]⟩, .int .i64 0, .int .i64 0, .string ⟨#[]⟩, .slice none 0 0, .slice none 0 0] 27 (0, 0)) := ⟨_, rfl⟩
    have hkW : Kp g w W := by rw [hW]; exact (kp_refl g w).alloc _
    have HPW := Lib.hid (show PaAt W g s i by rw [hW]; exact HPA.out.alloc _)
    have HMW := Lib.hid (HM.out.kp hkW)
    have BR : Blk W w.heap.size 27 #[.int .i64 0, .int .i64 0, .string ⟨#[]⟩, .int .i64 0, .int .i64 0, .string ⟨#[]⟩, .slice none 0 0, .slice none 0 0] := by rw [hW]; exact Blk.new w _ _
    have hWs : w.heap.size < W.heap.size := BR.lt
    have hszW : W.heap.size = w.heap.size + 1 := by rw [hW]; simp
    have HBR := Lib.hid BR
    rw [← hW]
    clear hW BR
    have d2 : W.cell? ⟨g, 2, none⟩ = some (.string v) := by have h := HPW.out.b.cell 2; rw [show tb (curTx s i) = v from HTV.out] at h; exact h
    have d3 : W.cell? ⟨g, 3, none⟩ = some (.bool false) := by have h := HPW.out.b.cell 3; rw [HTT.out] at h; exact h
    go_wp2_with (go_at_call 80; (with_reducible refine (HDG.out _).mono ?_); rintro e w1 ⟨rfl, rfl⟩)
    refine (constantOf_R g s i W HPW.out HMW.out t r HLL.out).mono ?_
    rw [HRR.out]
    cases R with
    | err k =>
      rintro e w1 ⟨rfl, hk1⟩
      go_wp2_with fail
      exact ⟨rfl, rfl, hkW.trans hk1⟩
    | ok es l1 =>
      rintro e w1 ⟨y, i1, cs1, rfl, rfl, rfl, hx1, hp1, hk1⟩
      have HX1 := Lib.hid hx1
      obtain ⟨hn1, hs1, hl1, ha1, hxx1, hrr1, hii1⟩ := hx1
      rename_i A1 c1 A2 c2 csi1
      clear hxx1 hrr1 hii1 hn1 hs1 hl1 ha1
      have exa1 : (exCells y A1 c1 A2 c2).toArray = #[.int .i64 y.k, .int .i64 y.op, .string y.nm, .int .i64 y.v.k, .int .i64 y.v.n, .string y.v.s, .slice A1 y.v.l.length c1, .slice A2 y.ar.length c2] := rfl
      rw [exa1]
      clear exa1
      have B1 := HBR.out.kp hk1 (by omega)
      have rc0 : w1.cell? ⟨w.heap.size, 0, none⟩ = some (.int .i64 0) := B1.cell 0
      have rz0 : w1.frozen? ⟨w.heap.size, 0, none⟩ = false := B1.frozen 0
      have rc1 : w1.cell? ⟨w.heap.size, 1, none⟩ = some (.int .i64 0) := B1.cell 1
      have rz1 : w1.frozen? ⟨w.heap.size, 1, none⟩ = false := B1.frozen 1
      have rc2 : w1.cell? ⟨w.heap.size, 2, none⟩ = some (.string ⟨#[]⟩) := B1.cell 2
      have rz2 : w1.frozen? ⟨w.heap.size, 2, none⟩ = false := B1.frozen 2
      have rc3 : w1.cell? ⟨w.heap.size, 3, none⟩ = some (.int .i64 0) := B1.cell 3
      have rz3 : w1.frozen? ⟨w.heap.size, 3, none⟩ = false := B1.frozen 3
      have rc4 : w1.cell? ⟨w.heap.size, 4, none⟩ = some (.int .i64 0) := B1.cell 4
      have rz4 : w1.frozen? ⟨w.heap.size, 4, none⟩ = false := B1.frozen 4
      have rc5 : w1.cell? ⟨w.heap.size, 5, none⟩ = some (.string ⟨#[]⟩) := B1.cell 5
      have rz5 : w1.frozen? ⟨w.heap.size, 5, none⟩ = false := B1.frozen 5
      have rc6 : w1.cell? ⟨w.heap.size, 6, none⟩ = some (.slice none 0 0) := B1.cell 6
      have rz6 : w1.frozen? ⟨w.heap.size, 6, none⟩ = false := B1.frozen 6
      have rc7 : w1.cell? ⟨w.heap.size, 7, none⟩ = some (.slice none 0 0) := B1.cell 7
      have rz7 : w1.frozen? ⟨w.heap.size, 7, none⟩ = false := B1.frozen 7
      go_wp2_with fail
      refine bodyPost_ret (v := .agg #[.int .i64 y.k, .int .i64 y.op, .string y.nm, .int .i64 y.v.k, .int .i64 y.v.n, .string y.v.s, .slice A1 y.v.l.length c1, .slice A2 y.ar.length c2]) (by simp [results, Tryz.results159, go_sem, rc0, rc1, rc2, rc3, rc4, rc5, rc6, rc7]) rfl ?_
      exact ret8 HX1.out hWs hlt hp1 (hkW.trans hk1)
  by_cases ht1 : t.tx = trueT
  · rw [Bool.eq_false_iff.2 h0] at HDG
    have q64 : ((v[0].toNat : Int) == 64) = false := by
      have h1 : v[0].toNat ≠ 64 := fun e => h64 (by rw [← hu1]; exact UInt8.toNat_inj.1 e)
      simp; omega
    have p64 : (v[0].toNat == 64) = false := by
      have h1 : v[0].toNat ≠ 64 := fun e => h64 (by rw [← hu1]; exact UInt8.toNat_inj.1 e)
      simp; omega
    have q35 : ((v[0].toNat : Int) == 35) = false := by
      have h1 : v[0].toNat ≠ 35 := fun e => h35 (by rw [← hu1]; exact UInt8.toNat_inj.1 e)
      simp; omega
    have p35 : (v[0].toNat == 35) = false := by
      have h1 : v[0].toNat ≠ 35 := fun e => h35 (by rw [← hu1]; exact UInt8.toNat_inj.1 e)
      simp; omega
    have q39 : ((v[0].toNat : Int) == 39) = false := by
      have h1 : v[0].toNat ≠ 39 := fun e => h39 (by rw [← hu1]; exact UInt8.toNat_inj.1 e)
      simp; omega
    have p39 : (v[0].toNat == 39) = false := by
      have h1 : v[0].toNat ≠ 39 := fun e => h39 (by rw [← hu1]; exact UInt8.toNat_inj.1 e)
      simp; omega
    have q123 : ((v[0].toNat : Int) == 123) = false := by
      have h1 : v[0].toNat ≠ 123 := fun e => h123 (by rw [← hu1]; exact UInt8.toNat_inj.1 e)
      simp; omega
    have p123 : (v[0].toNat == 123) = false := by
      have h1 : v[0].toNat ≠ 123 := fun e => h123 (by rw [← hu1]; exact UInt8.toNat_inj.1 e)
      simp; omega
    have st : (v.toList == [116, 114, 117, 101]) = true := by have h := hstr [116, 114, 117, 101] ht1; simpa [tb] using h
    clear hu1 hcb hnb hstr hstr' hwt ea et eh htx h32 hc0 hul hv hp hm
    go_enter Tryz.func159, Tryz.ntmps159
    go_upto_region 1 with (fail)
    obtain ⟨W, hW⟩ : ∃ W, W = w.alloc (.cells #[.int .i64 0, .int .i64 0, .string ⟨#[]⟩, .int .i64 0, .int .i64 0, .string ⟨#[]⟩, .slice none 0 0, .slice none 0 0] 27 (0, 0)) := ⟨_, rfl⟩
    have hkW : Kp g w W := by rw [hW]; exact (kp_refl g w).alloc _
    have HPW := Lib.hid (show PaAt W g s i by rw [hW]; exact HPA.out.alloc _)
    have HMW := Lib.hid (HM.out.kp hkW)
    have BR : Blk W w.heap.size 27 #[.int .i64 0, .int .i64 0, .string ⟨#[]⟩, .int .i64 0, .int .i64 0, .string ⟨#[]⟩, .slice none 0 0, .slice none 0 0] := by rw [hW]; exact Blk.new w _ _
    have hWs : w.heap.size < W.heap.size := BR.lt
    have hszW : W.heap.size = w.heap.size + 1 := by rw [hW]; simp
    have HBR := Lib.hid BR
    rw [← hW]
    clear hW BR
    have d2 : W.cell? ⟨g, 2, none⟩ = some (.string v) := by have h := HPW.out.b.cell 2; rw [show tb (curTx s i) = v from HTV.out] at h; exact h
    have d3 : W.cell? ⟨g, 3, none⟩ = some (.bool false) := by have h := HPW.out.b.cell 3; rw [HTT.out] at h; exact h
    go_wp2_with (go_at_call 80; (with_reducible refine (HDG.out _).mono ?_); rintro e w1 ⟨rfl, rfl⟩)
    refine (constantOf_R g s i W HPW.out HMW.out t r HLL.out).mono ?_
    rw [HRR.out]
    cases R with
    | err k =>
      rintro e w1 ⟨rfl, hk1⟩
      go_wp2_with fail
      exact ⟨rfl, rfl, hkW.trans hk1⟩
    | ok es l1 =>
      rintro e w1 ⟨y, i1, cs1, rfl, rfl, rfl, hx1, hp1, hk1⟩
      have HX1 := Lib.hid hx1
      obtain ⟨hn1, hs1, hl1, ha1, hxx1, hrr1, hii1⟩ := hx1
      rename_i A1 c1 A2 c2 csi1
      clear hxx1 hrr1 hii1 hn1 hs1 hl1 ha1
      have exa1 : (exCells y A1 c1 A2 c2).toArray = #[.int .i64 y.k, .int .i64 y.op, .string y.nm, .int .i64 y.v.k, .int .i64 y.v.n, .string y.v.s, .slice A1 y.v.l.length c1, .slice A2 y.ar.length c2] := rfl
      rw [exa1]
      clear exa1
      have B1 := HBR.out.kp hk1 (by omega)
      have rc0 : w1.cell? ⟨w.heap.size, 0, none⟩ = some (.int .i64 0) := B1.cell 0
      have rz0 : w1.frozen? ⟨w.heap.size, 0, none⟩ = false := B1.frozen 0
      have rc1 : w1.cell? ⟨w.heap.size, 1, none⟩ = some (.int .i64 0) := B1.cell 1
      have rz1 : w1.frozen? ⟨w.heap.size, 1, none⟩ = false := B1.frozen 1
      have rc2 : w1.cell? ⟨w.heap.size, 2, none⟩ = some (.string ⟨#[]⟩) := B1.cell 2
      have rz2 : w1.frozen? ⟨w.heap.size, 2, none⟩ = false := B1.frozen 2
      have rc3 : w1.cell? ⟨w.heap.size, 3, none⟩ = some (.int .i64 0) := B1.cell 3
      have rz3 : w1.frozen? ⟨w.heap.size, 3, none⟩ = false := B1.frozen 3
      have rc4 : w1.cell? ⟨w.heap.size, 4, none⟩ = some (.int .i64 0) := B1.cell 4
      have rz4 : w1.frozen? ⟨w.heap.size, 4, none⟩ = false := B1.frozen 4
      have rc5 : w1.cell? ⟨w.heap.size, 5, none⟩ = some (.string ⟨#[]⟩) := B1.cell 5
      have rz5 : w1.frozen? ⟨w.heap.size, 5, none⟩ = false := B1.frozen 5
      have rc6 : w1.cell? ⟨w.heap.size, 6, none⟩ = some (.slice none 0 0) := B1.cell 6
      have rz6 : w1.frozen? ⟨w.heap.size, 6, none⟩ = false := B1.frozen 6
      have rc7 : w1.cell? ⟨w.heap.size, 7, none⟩ = some (.slice none 0 0) := B1.cell 7
      have rz7 : w1.frozen? ⟨w.heap.size, 7, none⟩ = false := B1.frozen 7
      go_wp2_with fail
      refine bodyPost_ret (v := .agg #[.int .i64 y.k, .int .i64 y.op, .string y.nm, .int .i64 y.v.k, .int .i64 y.v.n, .string y.v.s, .slice A1 y.v.l.length c1, .slice A2 y.ar.length c2]) (by simp [results, Tryz.results159, go_sem, rc0, rc1, rc2, rc3, rc4, rc5, rc6, rc7]) rfl ?_
      exact ret8 HX1.out hWs hlt hp1 (hkW.trans hk1)
  have hf1 : t.tx = falseT := by simp only [h0, h64, h35, h39, h123, ht1, false_or] at hc; first | exact hc | (rcases hc with h | h <;> first | exact absurd h (by decide) | exact h)
  rw [Bool.eq_false_iff.2 h0] at HDG
  have q64 : ((v[0].toNat : Int) == 64) = false := by
    have h1 : v[0].toNat ≠ 64 := fun e => h64 (by rw [← hu1]; exact UInt8.toNat_inj.1 e)
    simp; omega
  have p64 : (v[0].toNat == 64) = false := by
    have h1 : v[0].toNat ≠ 64 := fun e => h64 (by rw [← hu1]; exact UInt8.toNat_inj.1 e)
    simp; omega
  have q35 : ((v[0].toNat : Int) == 35) = false := by
    have h1 : v[0].toNat ≠ 35 := fun e => h35 (by rw [← hu1]; exact UInt8.toNat_inj.1 e)
    simp; omega
  have p35 : (v[0].toNat == 35) = false := by
    have h1 : v[0].toNat ≠ 35 := fun e => h35 (by rw [← hu1]; exact UInt8.toNat_inj.1 e)
    simp; omega
  have q39 : ((v[0].toNat : Int) == 39) = false := by
    have h1 : v[0].toNat ≠ 39 := fun e => h39 (by rw [← hu1]; exact UInt8.toNat_inj.1 e)
    simp; omega
  have p39 : (v[0].toNat == 39) = false := by
    have h1 : v[0].toNat ≠ 39 := fun e => h39 (by rw [← hu1]; exact UInt8.toNat_inj.1 e)
    simp; omega
  have q123 : ((v[0].toNat : Int) == 123) = false := by
    have h1 : v[0].toNat ≠ 123 := fun e => h123 (by rw [← hu1]; exact UInt8.toNat_inj.1 e)
    simp; omega
  have p123 : (v[0].toNat == 123) = false := by
    have h1 : v[0].toNat ≠ 123 := fun e => h123 (by rw [← hu1]; exact UInt8.toNat_inj.1 e)
    simp; omega
  have st : (v.toList == [116, 114, 117, 101]) = false := by have h := hstr' [116, 114, 117, 101] ht1; simpa [tb] using h
  have sf : (v.toList == [102, 97, 108, 115, 101]) = true := by have h := hstr [102, 97, 108, 115, 101] hf1; simpa [tb] using h
  clear hu1 hcb hnb hstr hstr' hwt ea et eh htx h32 hc0 hul hv hp hm
  go_enter Tryz.func159, Tryz.ntmps159
  go_upto_region 1 with (fail)
  obtain ⟨W, hW⟩ : ∃ W, W = w.alloc (.cells #[.int .i64 0, .int .i64 0, .string ⟨#[]⟩, .int .i64 0, .int .i64 0, .string ⟨#[]⟩, .slice none 0 0, .slice none 0 0] 27 (0, 0)) := ⟨_, rfl⟩
  have hkW : Kp g w W := by rw [hW]; exact (kp_refl g w).alloc _
  have HPW := Lib.hid (show PaAt W g s i by rw [hW]; exact HPA.out.alloc _)
  have HMW := Lib.hid (HM.out.kp hkW)
  have BR : Blk W w.heap.size 27 #[.int .i64 0, .int .i64 0, .string ⟨#[]⟩, .int .i64 0, .int .i64 0, .string ⟨#[]⟩, .slice none 0 0, .slice none 0 0] := by rw [hW]; exact Blk.new w _ _
  have hWs : w.heap.size < W.heap.size := BR.lt
  have hszW : W.heap.size = w.heap.size + 1 := by rw [hW]; simp
  have HBR := Lib.hid BR
  rw [← hW]
  clear hW BR
  have d2 : W.cell? ⟨g, 2, none⟩ = some (.string v) := by have h := HPW.out.b.cell 2; rw [show tb (curTx s i) = v from HTV.out] at h; exact h
  have d3 : W.cell? ⟨g, 3, none⟩ = some (.bool false) := by have h := HPW.out.b.cell 3; rw [HTT.out] at h; exact h
  go_wp2_with (go_at_call 80; (with_reducible refine (HDG.out _).mono ?_); rintro e w1 ⟨rfl, rfl⟩)
  refine (constantOf_R g s i W HPW.out HMW.out t r HLL.out).mono ?_
  rw [HRR.out]
  cases R with
  | err k =>
    rintro e w1 ⟨rfl, hk1⟩
    go_wp2_with fail
    exact ⟨rfl, rfl, hkW.trans hk1⟩
  | ok es l1 =>
    rintro e w1 ⟨y, i1, cs1, rfl, rfl, rfl, hx1, hp1, hk1⟩
    have HX1 := Lib.hid hx1
    obtain ⟨hn1, hs1, hl1, ha1, hxx1, hrr1, hii1⟩ := hx1
    rename_i A1 c1 A2 c2 csi1
    clear hxx1 hrr1 hii1 hn1 hs1 hl1 ha1
    have exa1 : (exCells y A1 c1 A2 c2).toArray = #[.int .i64 y.k, .int .i64 y.op, .string y.nm, .int .i64 y.v.k, .int .i64 y.v.n, .string y.v.s, .slice A1 y.v.l.length c1, .slice A2 y.ar.length c2] := rfl
    rw [exa1]
    clear exa1
    have B1 := HBR.out.kp hk1 (by omega)
    have rc0 : w1.cell? ⟨w.heap.size, 0, none⟩ = some (.int .i64 0) := B1.cell 0
    have rz0 : w1.frozen? ⟨w.heap.size, 0, none⟩ = false := B1.frozen 0
    have rc1 : w1.cell? ⟨w.heap.size, 1, none⟩ = some (.int .i64 0) := B1.cell 1
    have rz1 : w1.frozen? ⟨w.heap.size, 1, none⟩ = false := B1.frozen 1
    have rc2 : w1.cell? ⟨w.heap.size, 2, none⟩ = some (.string ⟨#[]⟩) := B1.cell 2
    have rz2 : w1.frozen? ⟨w.heap.size, 2, none⟩ = false := B1.frozen 2
    have rc3 : w1.cell? ⟨w.heap.size, 3, none⟩ = some (.int .i64 0) := B1.cell 3
    have rz3 : w1.frozen? ⟨w.heap.size, 3, none⟩ = false := B1.frozen 3
    have rc4 : w1.cell? ⟨w.heap.size, 4, none⟩ = some (.int .i64 0) := B1.cell 4
    have rz4 : w1.frozen? ⟨w.heap.size, 4, none⟩ = false := B1.frozen 4
    have rc5 : w1.cell? ⟨w.heap.size, 5, none⟩ = some (.string ⟨#[]⟩) := B1.cell 5
    have rz5 : w1.frozen? ⟨w.heap.size, 5, none⟩ = false := B1.frozen 5
    have rc6 : w1.cell? ⟨w.heap.size, 6, none⟩ = some (.slice none 0 0) := B1.cell 6
    have rz6 : w1.frozen? ⟨w.heap.size, 6, none⟩ = false := B1.frozen 6
    have rc7 : w1.cell? ⟨w.heap.size, 7, none⟩ = some (.slice none 0 0) := B1.cell 7
    have rz7 : w1.frozen? ⟨w.heap.size, 7, none⟩ = false := B1.frozen 7
    go_wp2_with fail
    refine bodyPost_ret (v := .agg #[.int .i64 y.k, .int .i64 y.op, .string y.nm, .int .i64 y.v.k, .int .i64 y.v.n, .string y.v.s, .slice A1 y.v.l.length c1, .slice A2 y.ar.length c2]) (by simp [results, Tryz.results159, go_sem, rc0, rc1, rc2, rc3, rc4, rc5, rc6, rc7]) rfl ?_
    exact ret8 HX1.out hWs hlt hp1 (hkW.trans hk1)
end Go.Proofs.YtobanldeicclmaaGreatDoor
