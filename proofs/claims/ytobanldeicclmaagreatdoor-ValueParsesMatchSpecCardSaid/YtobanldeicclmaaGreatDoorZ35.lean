/- Lemmas for the claim: walks and plain laws. -/
import Derived.Test.YtobanldeicclmaaGreatDoorZ33
import Derived.Test.YtobanldeicclmaaGreatDoorZ34
set_option maxHeartbeats 8000000
set_option maxRecDepth 100000
namespace Go.Proofs.YtobanldeicclmaaGreatDoor
open Go.RowKit Vtx
attribute [local go_sem ↓] Go.wp_at_zero Go.wp_at_succ
noncomputable def DD (x : List UInt8) (a : Nat) (r : List Tok) : jO := match fQ x with
 | some v => .ok [dX v] r
 | none => .err a
theorem Hw (g : Nat) (s : ByteArray) (i : Nat) (w : World) (hp : aP w g s i) (hm : TM w g) (t : Tok) (r : List Tok) (hL : wordsOf s.data.toList i = t :: r) :
  Calls Tryz.prog 168 #[.pointer (some ⟨g, 0, none⟩)] w fun e w' => ui w g s (DD (if fM t.tx then iE t.tx else t.tx) t.at_ r) e w' := by
 refine (DC g s i w hp hm t r hL).mono ?_
 intro e w' h
 unfold DD
 obtain ⟨x, hx⟩ := ae (fQ (if fM t.tx then iE t.tx else t.tx))
 rw [hx] at h ⊢
 cases x <;> exact h
theorem Nc {n : Nat} {t : Tok} {r : List Tok} (h : t.touch = true) : Pz n .az [] (t :: r) = .err t.at_ := by rw [bW]; dsimp only [dB]; rw [if_pos h]
theorem Nh {n : Nat} {t : Tok} {r : List Tok} (h : t.touch = false) (hc : dF t.tx = true) : Pz n .az [] (t :: r) = DD (if fM t.tx then iE t.tx else t.tx) t.at_ r := by rw [bW]; dsimp only [dB]; rw [if_neg (by rw [h]; decide), if_pos hc]; unfold DD; cases fQ (if fM t.tx then iE t.tx else t.tx) <;> rfl
theorem Ko {n : Nat} {t : Tok} {r : List Tok} (h : t.touch = false) (hp : t.tx = [40]) : Pz n .az [] (t :: r) = (Pz n .or [] r).bind fun es l1 => aN n [41] l1 fun l2 => .ok es l2 := by
 rw [bW]; dsimp only [dB]; rw [if_neg (by rw [h]; decide), if_neg (by rw [hp]; decide), if_pos hp]
theorem U1 {n : Nat} {t : Tok} {r : List Tok} (h : t.touch = false) (hc : dF t.tx = false) (hp : t.tx ≠ [40]) (hn : nameB t.tx = false) : Pz n .az [] (t :: r) = .err t.at_ := by
 rw [bW]; dsimp only [dB]; rw [if_neg (by rw [h]; decide), if_neg (by rw [hc]; decide), if_neg hp, if_pos hn]
theorem Nj {n : Nat} {t : Tok} {r : List Tok} (h : t.touch = false) (hc : dF t.tx = false) (hp : t.tx ≠ [40]) (hn : nameB t.tx = true) (hd : jH t r = false) : Pz n .az [] (t :: r) = .ok [bP 2 0 t.tx []] r := by
 rw [bW]; dsimp only [dB]; rw [if_neg (by rw [h]; decide), if_neg (by rw [hc]; decide), if_neg hp, if_neg (by rw [hn]; decide), if_pos hd]
theorem QL {n : Nat} {t : Tok} {r : List Tok} (h : t.touch = false) (hc : dF t.tx = false) (hp : t.tx ≠ [40]) (hn : nameB t.tx = true) (hd : jH t r = true) (ho : cZ t.tx = 0) (hq : gm t.tx = 0) (hx : t.tx ≠ pI) : Pz n .az [] (t :: r) = .ok [bP 2 0 t.tx []] r := by
 rw [bW]; dsimp only [dB]; rw [if_neg (by rw [h]; decide), if_neg (by rw [hc]; decide), if_neg hp, if_neg (by rw [hn]; decide), if_neg (by rw [hd]; decide), if_neg (fun h => h ho), if_neg (fun h => h hq), if_neg hx]
theorem QM {n : Nat} {t : Tok} {r : List Tok} (h : t.touch = false) (hc : dF t.tx = false) (hp : t.tx ≠ [40]) (hn : nameB t.tx = true) (hd : jH t r = true) (hy : ¬ (cZ t.tx = 0 ∧ gm t.tx = 0 ∧ t.tx ≠ pI)) : Pz n .az [] (t :: r) = rH n t.tx r.tail := by
 rw [bW]; dsimp only [dB]; rw [if_neg (by rw [h]; decide), if_neg (by rw [hc]; decide), if_neg hp, if_neg (by rw [hn]; decide), if_neg (by rw [hd]; decide)]
 unfold rH
 by_cases ho : cZ t.tx = 0
 ·
  have no : ¬ (cZ t.tx ≠ 0) := fun h => h ho
  rw [if_neg no, if_neg no]
  by_cases hq : gm t.tx = 0
  ·
   have nq : ¬ (gm t.tx ≠ 0) := fun h => h hq
   rw [if_neg nq, if_neg nq, if_pos (show t.tx = pI from Decidable.not_not.1 (fun hx => hy ⟨ho, hq, hx⟩))]
   cases nameAt r.tail <;> rfl
  ·
   have yq : gm t.tx ≠ 0 := hq
   rw [if_pos yq, if_pos yq]
 ·
  have yo : cZ t.tx ≠ 0 := ho
  rw [if_pos yo, if_pos yo]
  cases nameAt r.tail <;> rfl
theorem U2 (g : Nat) (s : ByteArray) (i : Nat) (w : World) (hp : aP w g s i) (hm : TM w g) (t u : Tok) (r : List Tok) (hL : wordsOf s.data.toList i = t :: u :: r) (hu : u.tx = [40]) (hy : ¬ (cZ t.tx = 0 ∧ gm t.tx = 0 ∧ t.tx ≠ pI)) (hP : ∀ L', L'.length ≤ r.length → fK 31 .or s L') :
  Calls Tryz.prog 170 #[.pointer (some ⟨g, 0, none⟩), .string (tb t.tx)] w fun e w' => UB w g s (rH s.data.toList.length t.tx r) e w' := by
 by_cases ho : cZ t.tx = 0
 ·
  by_cases hq : gm t.tx = 0
  ·
   exact UY g s i w hp hm t u r hL hu (Decidable.not_not.1 (fun hx => hy ⟨ho, hq, hx⟩)) hP
  ·
   exact Xl g s i w hp hm t u r hL hu ho hq hP
 ·
  exact Qr g s i w hp hm t u r hL hu ho hP
theorem kN {s : ByteArray} {i : Nat} {t : Tok} (hw : bV s.data.toList i = some t) : ∃ (c0 : UInt8) (tl : List UInt8) (v : ByteArray) (hu0 : 0 < v.size), s.data.toList.getD t.at_ 0 = c0 ∧ t.tx = c0 :: tl ∧ c0 ≠ 32 ∧ tb t.tx = v ∧ v[0] = c0 ∧ v.toList.isEmpty = false ∧
  Hid (∀ w', Calls Tryz.prog 80 #[.int .u8 (v[0].toNat : Nat)] w' fun e w'' => e = .returned (.bool (bI c0)) ∧ w' = w'') ∧ Hid (∀ w', Calls Tryz.prog 78 #[.int .u8 (v[0].toNat : Nat)] w' fun e w'' => e = .returned (.bool (dE c0)) ∧ w' = w'') ∧
  Hid (∀ w', Calls Tryz.prog 100 #[.string v] w' fun e w'' => e = .returned (.bool (aB.contains t.tx)) ∧ w' = w'') ∧
  dF t.tx = ((bI c0 || decide (c0 = 64) || decide (c0 = 35) || decide (c0 = 39) || decide (c0 = 123)) || decide (t.tx = iP) || decide (t.tx = dV)) ∧ nameB t.tx = (dE c0 && !aB.contains t.tx) ∧ (∀ l : List UInt8, t.tx = l → (v.toList == (tb l).toList) = true) ∧ (∀ l : List UInt8, t.tx ≠ l → (v.toList == (tb l).toList) = false) := by
 obtain ⟨tl, htx, h32⟩ := nX hw
 obtain ⟨c0, hc0⟩ := ae (s.data.toList.getD t.at_ 0)
 rw [hc0] at htx h32
 obtain ⟨v, hv⟩ := ae (tb t.tx)
 have hu0 : 0 < v.size := by rw [← hv, dm, htx]; simp
 have hu1 : v[0] = c0 := by
  subst hv
  have h1 : (tb t.tx).data.toList[0]? = some c0 := by rw [bT, htx]; rfl
  have h2 : (tb t.tx).data.toList[0]? = some (tb t.tx)[0] := by
   rw [List.getElem?_eq_getElem (by rw [ak]; exact hu0)]; rfl
  rw [h2] at h1
  injection h1
 have hem : v.toList.isEmpty = false := by
  cases h : v.toList.isEmpty with
  | false => rfl
  | true =>
   have h1 : v.toList = [] := List.isEmpty_iff.1 h
   have h2 : (v.toList == (⟨#[]⟩ : ByteArray).toList) = true := by rw [h1]; simp
   have h3 : (v.toList == (⟨#[]⟩ : ByteArray).toList) = false := bZ (fun e => by rw [e] at hu0; exact absurd hu0 (by decide))
   rw [h3] at h2; cases h2
 have xx := qh (show ∀ w', Calls Tryz.prog 80 #[.int .u8 (v[0].toNat : Nat)] w' fun e w'' => e = .returned (.bool (bI c0)) ∧ w' = w'' from fun w' => by rw [hu1]; exact jC c0 w')
 have tY := qh (show ∀ w', Calls Tryz.prog 78 #[.int .u8 (v[0].toNat : Nat)] w' fun e w'' => e = .returned (.bool (dE c0)) ∧ w' = w'' from fun w' => by rw [hu1]; exact nZ c0 w')
 have qN := qh (show ∀ w', Calls Tryz.prog 100 #[.string v] w' fun e w'' => e = .returned (.bool (aB.contains t.tx)) ∧ w' = w'' from fun w' => by
  have h1 := mQ v w'
  rwa [show v.data.toList = t.tx from by rw [← hv, bT]] at h1)
 have hcb : dF t.tx = ((bI c0 || decide (c0 = 64) || decide (c0 = 35) || decide (c0 = 39) || decide (c0 = 123)) || decide (t.tx = iP) || decide (t.tx = dV)) := by
  unfold dF
  congr 1
  congr 1
  rw [htx]
 have hnb : nameB t.tx = (dE c0 && !aB.contains t.tx) := by
  unfold nameB
  congr 1
  rw [htx]
 have hstr : ∀ l : List UInt8, t.tx = l → (v.toList == (tb l).toList) = true := fun l h => jg (by rw [← hv, h])
 have jm : ∀ l : List UInt8, t.tx ≠ l → (v.toList == (tb l).toList) = false := fun l h => bZ (fun e => h (uK (by rw [hv, e])))
 exact ⟨c0, tl, v, hu0, hc0, htx, h32, hv, hu1, hem, xx, tY, qN, hcb, hnb, hstr, jm⟩
theorem Kq (g : Nat) (s : ByteArray) (i : Nat) (w : World) (hp : aP w g s i) (hL : wordsOf s.data.toList i = []) :
  Calls Tryz.prog 159 #[.pointer (some ⟨g, 0, none⟩)] w fun e w' => ui w g s (Pz s.data.toList.length .az [] []) e w' := by
 have jD := qh hp
 have hlt := hp.b.lt
 have HW0 := qh (fun W (hp : aP W g s i) => iI g s i W hp)
 have hr : Pz s.data.toList.length .az [] [] = .err (aO s i) := by
  rw [bW]; dsimp only [dB]
  have h := lT s i
  rw [hL] at h
  rw [← h]
  rfl
 have htx : aH s i = [] := by
  unfold aH
  cases ht : bV s.data.toList i with
  | none => rfl
  | some t => rw [eQ, ht] at hL; cases hL
 have HTX := qh htx
 rw [hr]
 clear hr htx hp hL
 go_enter Tryz.func159, Tryz.ntmps159
 go_upto_region 1 with (fail)
 obtain ⟨W, hW, hkW, BR, hszW, hWs, -⟩ := dY g w
 have iZ := qh (show aP W g s i by rw [hW]; exact jD.out.alloc _)
 have fV := qh BR
 rw [← hW]
 clear hW BR
 have d2 : W.cell? ⟨g, 2, none⟩ = some (.string ⟨#[]⟩) := by have h := iZ.out.b.cell 2; rw [HTX.out] at h; exact h
 go_wp2_with (go_at_call 32; (with_reducible refine (HW0.out _ iZ.out).mono ?_); rintro e w1 ⟨rfl, rfl⟩)
 exact ⟨rfl, rfl, hkW⟩
theorem Eu (g : Nat) (s : ByteArray) (i : Nat) (w : World) (hp : aP w g s i) (hm : TM w g) (t : Tok) (r : List Tok) (hL : wordsOf s.data.toList i = t :: r) (ht : t.touch = true) :
  Calls Tryz.prog 159 #[.pointer (some ⟨g, 0, none⟩)] w fun e w' => ui w g s (Pz s.data.toList.length .az [] (t :: r)) e w' := by
 have jD := qh hp
 have HM := qh hm
 have hlt := hp.b.lt
 have hs4 := hp.s
 have hwt := dJ hL
 obtain ⟨ea, et, eh⟩ := jX hwt.1
 obtain ⟨c0, tl, v, hu0, hc0, htx, h32, hv, hu1, hem, xx, tY, qN, hcb, hnb, hstr, jm⟩ := kN hwt.1
 have wV := dW hwt.1
 rw [ak] at wV
 have Hu := qh (show r = wordsOf s.data.toList (aO s i + (aH s i).length) by rw [ea, et]; exact hwt.2)
 have Ie := qh (show t.at_ = aO s i from ea.symm)
 have lh := qh hwt.1
 have Zp := qh hL
 have HV := qh hv
 have vK := qh (show tb (aH s i) = v by rw [et]; exact hv)
 have jf := qh eh
 have HW0 := qh (fun W (hp : aP W g s i) => iI g s i W hp)
 rw [Nc ht, Ie.out]
 rw [ht] at jf
 clear hu1 hcb hnb hstr jm hwt ea et eh htx h32 hc0 wV hv hL hp hm
 go_enter Tryz.func159, Tryz.ntmps159
 go_upto_region 1 with (fail)
 obtain ⟨W, hW, hkW, BR, hszW, hWs, -⟩ := dY g w
 have iZ := qh (show aP W g s i by rw [hW]; exact jD.out.alloc _)
 have oZ := qh (HM.out.kp hkW)
 have fV := qh BR
 rw [← hW]
 clear hW BR
 have d2 : W.cell? ⟨g, 2, none⟩ = some (.string v) := by have h := iZ.out.b.cell 2; rw [show tb (aH s i) = v from vK.out] at h; exact h
 have d3 : W.cell? ⟨g, 3, none⟩ = some (.bool true) := by have h := iZ.out.b.cell 3; rw [jf.out] at h; exact h
 go_wp2_with (go_at_call 32; (with_reducible refine (HW0.out _ iZ.out).mono ?_); rintro e w1 ⟨rfl, rfl⟩)
 exact ⟨rfl, rfl, hkW⟩
theorem Ew (g : Nat) (s : ByteArray) (i : Nat) (w : World) (hp : aP w g s i) (hm : TM w g) (t : Tok) (r : List Tok) (hL : wordsOf s.data.toList i = t :: r) (ht : t.touch = false) (hc : dF t.tx = true) :
  Calls Tryz.prog 159 #[.pointer (some ⟨g, 0, none⟩)] w fun e w' => ui w g s (Pz s.data.toList.length .az [] (t :: r)) e w' := by
 have jD := qh hp
 have HM := qh hm
 have hlt := hp.b.lt
 have hs4 := hp.s
 have hwt := dJ hL
 obtain ⟨ea, et, eh⟩ := jX hwt.1
 obtain ⟨c0, tl, v, hu0, hc0, htx, h32, hv, hu1, hem, xx, tY, qN, hcb, hnb, hstr, jm⟩ := kN hwt.1
 have wV := dW hwt.1
 rw [ak] at wV
 have Hu := qh (show r = wordsOf s.data.toList (aO s i + (aH s i).length) by rw [ea, et]; exact hwt.2)
 have Ie := qh (show t.at_ = aO s i from ea.symm)
 have lh := qh hwt.1
 have Zp := qh hL
 have HV := qh hv
 have vK := qh (show tb (aH s i) = v by rw [et]; exact hv)
 have jf := qh eh
 have HW0 := qh (fun W (hp : aP W g s i) => iI g s i W hp)
 rw [Nh ht hc]
 rw [ht] at jf
 obtain ⟨R, hR⟩ := ae (DD (if fM t.tx then iE t.tx else t.tx) t.at_ r)
 have HRR := qh hR
 rw [hR]
 rw [hcb] at hc
 simp only [Bool.or_eq_true, decide_eq_true_iff] at hc
 clear hR
 by_cases h0 : bI c0 = true
 case' pos =>
  rw [h0] at xx
 case' neg =>
  by_cases h64 : c0 = 64
  case' pos =>
   rw [Bool.eq_false_iff.2 h0] at xx
   have Vx : ((v[0].toNat : Int) == 64) = true := by rw [hu1, h64]; rfl
   have p64 : (v[0].toNat == 64) = true := by rw [hu1, h64]; rfl
  case' neg =>
   by_cases h35 : c0 = 35
   case' pos =>
    rw [Bool.eq_false_iff.2 h0] at xx
    obtain ⟨Vx, p64⟩ := fA (z := 64) (n := 64) hu1 h64 rfl rfl
    have q35 : ((v[0].toNat : Int) == 35) = true := by rw [hu1, h35]; rfl
    have p35 : (v[0].toNat == 35) = true := by rw [hu1, h35]; rfl
   case' neg =>
    by_cases jZ : c0 = 39
    case' pos =>
     rw [Bool.eq_false_iff.2 h0] at xx
     obtain ⟨Vx, p64⟩ := fA (z := 64) (n := 64) hu1 h64 rfl rfl
     obtain ⟨q35, p35⟩ := fA (z := 35) (n := 35) hu1 h35 rfl rfl
     have X5 : ((v[0].toNat : Int) == 39) = true := by rw [hu1, jZ]; rfl
     have p39 : (v[0].toNat == 39) = true := by rw [hu1, jZ]; rfl
    case' neg =>
     by_cases fJ : c0 = 123
     case' pos =>
      rw [Bool.eq_false_iff.2 h0] at xx
      obtain ⟨Vx, p64⟩ := fA (z := 64) (n := 64) hu1 h64 rfl rfl
      obtain ⟨q35, p35⟩ := fA (z := 35) (n := 35) hu1 h35 rfl rfl
      obtain ⟨X5, p39⟩ := fA (z := 39) (n := 39) hu1 jZ rfl rfl
      have Nk : ((v[0].toNat : Int) == 123) = true := by rw [hu1, fJ]; rfl
      have Nl : (v[0].toNat == 123) = true := by rw [hu1, fJ]; rfl
     case' neg =>
      by_cases ht1 : t.tx = iP
      case' pos =>
       rw [Bool.eq_false_iff.2 h0] at xx
       obtain ⟨Vx, p64⟩ := fA (z := 64) (n := 64) hu1 h64 rfl rfl
       obtain ⟨q35, p35⟩ := fA (z := 35) (n := 35) hu1 h35 rfl rfl
       obtain ⟨X5, p39⟩ := fA (z := 39) (n := 39) hu1 jZ rfl rfl
       obtain ⟨Nk, Nl⟩ := fA (z := 123) (n := 123) hu1 fJ rfl rfl
       have st : (v.toList == [116, 114, 117, 101]) = true := by have h := hstr [116, 114, 117, 101] ht1; simpa [tb] using h
      case' neg =>
       have hf1 : t.tx = dV := by simp only [h0, h64, h35, jZ, fJ, ht1, false_or] at hc; first | exact hc | (rcases hc with h | h <;> first | exact absurd h (by decide) | exact h)
       rw [Bool.eq_false_iff.2 h0] at xx
       obtain ⟨Vx, p64⟩ := fA (z := 64) (n := 64) hu1 h64 rfl rfl
       obtain ⟨q35, p35⟩ := fA (z := 35) (n := 35) hu1 h35 rfl rfl
       obtain ⟨X5, p39⟩ := fA (z := 39) (n := 39) hu1 jZ rfl rfl
       obtain ⟨Nk, Nl⟩ := fA (z := 123) (n := 123) hu1 fJ rfl rfl
       have st : (v.toList == [116, 114, 117, 101]) = false := by have h := jm [116, 114, 117, 101] ht1; simpa [tb] using h
       have sf : (v.toList == [102, 97, 108, 115, 101]) = true := by have h := hstr [102, 97, 108, 115, 101] hf1; simpa [tb] using h
 all_goals
  clear hu1 hcb hnb hstr jm hwt ea et eh htx h32 hc0 wV hv hp hm
  go_enter Tryz.func159, Tryz.ntmps159
  go_upto_region 1 with (fail)
  obtain ⟨W, hW, hkW, BR, hszW, hWs, -⟩ := dY g w
  have iZ := qh (show aP W g s i by rw [hW]; exact jD.out.alloc _)
  have oZ := qh (HM.out.kp hkW)
  have fV := qh BR
  rw [← hW]
  clear hW BR
  have d2 : W.cell? ⟨g, 2, none⟩ = some (.string v) := by have h := iZ.out.b.cell 2; rw [show tb (aH s i) = v from vK.out] at h; exact h
  have d3 : W.cell? ⟨g, 3, none⟩ = some (.bool false) := by have h := iZ.out.b.cell 3; rw [jf.out] at h; exact h
  go_wp2_with (go_at_call 80; (with_reducible refine (xx.out _).mono ?_); rintro e w1 ⟨rfl, rfl⟩)
  refine (Hw g s i W iZ.out oZ.out t r Zp.out).mono ?_
  rw [HRR.out]
  cases R with
  | err k =>
   rintro e w1 ⟨rfl, hk1⟩
   go_wp2_with fail
   exact ⟨rfl, rfl, hkW.trans hk1⟩
  | ok es l1 =>
   rintro e w1 ⟨y, i1, cs1, rfl, rfl, rfl, hx1, hp1, hk1⟩
   have xn := qh hx1
   obtain ⟨hn1, hs1, hl1, ha1, uS, uT, hii1⟩ := hx1
   rename_i A1 c1 A2 c2 Jr
   clear uS uT hii1 hn1 hs1 hl1 ha1
   have oq : (ai y A1 c1 A2 c2).toArray = #[.int .i64 y.k, .int .i64 y.op, .string y.nm, .int .i64 y.v.k, .int .i64 y.v.n, .string y.v.s, .slice A1 y.v.l.length c1, .slice A2 y.ar.length c2] := rfl
   rw [oq]
   clear oq
   have B1 := fV.out.kp hk1 (by omega)
   obtain ⟨aQ, eX, aS, eY, aT, fD, aU, fE, aY, jR, aZ, jS, bu, jT, bz, jU⟩ := af.z8 B1
   go_wp2_with fail
   refine bodyPost_ret (v := .agg #[.int .i64 y.k, .int .i64 y.op, .string y.nm, .int .i64 y.v.k, .int .i64 y.v.n, .string y.v.s, .slice A1 y.v.l.length c1, .slice A2 y.ar.length c2]) (by simp [results, Tryz.results159, go_sem, aQ, aS, aT, aU, aY, aZ, bu, bz]) rfl ?_
   exact rC xn.out hWs hlt hp1 (hkW.trans hk1)
end Go.Proofs.YtobanldeicclmaaGreatDoor
