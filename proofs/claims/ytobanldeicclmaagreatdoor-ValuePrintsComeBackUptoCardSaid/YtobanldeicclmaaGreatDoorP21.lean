/- The walk of primary: brackets, names, calls. -/
import Derived.Test.YtobanldeicclmaaGreatDoorP20
namespace Go.Proofs.YtobanldeicclmaaGreatDoor
open Go.RowKit Vtx
attribute [local go_sem ↓] Go.wp_at_zero Go.wp_at_succ
set_option maxHeartbeats 8000000 in
set_option maxRecDepth 100000 in
theorem primary_paren (g : Nat) (s : ByteArray) (i : Nat) (w : World) (hp : PaAt w g s i) (hm : TM w g) (t : Tok) (r : List Tok) (hL : wordsOf s.data.toList i = t :: r) (ht : t.touch = false) (hp40 : t.tx = [40]) (hP : ∀ L', L'.length ≤ r.length → PSpec 31 .or s L') :
    Calls Tryz.prog 159 #[.pointer (some ⟨g, 0, none⟩)] w fun e w' => PRet w g s (Pz s.data.toList.length .primary [] (t :: r)) e w' := by
  have HPA := Lib.hid hp
  have HM := Lib.hid hm
  have hlt := hp.b.lt
  have hs4 := hp.s
  have hwt := word_tok hL
  obtain ⟨ea, et, eh⟩ := cur_of hwt.1
  obtain ⟨tl, htx, h32⟩ := tok_head hwt.1
  obtain ⟨c0, hc0⟩ : ∃ c, s.data.toList.getD t.at_ 0 = c := ⟨_, rfl⟩
  rw [hc0] at htx
  have hul := tok_in hwt.1
  rw [data_len] at hul
  have HTR := Lib.hid (show r = wordsOf s.data.toList (curAt s i + (curTx s i).length) by rw [ea, et]; exact hwt.2)
  have HTA := Lib.hid (show t.at_ = curAt s i from ea.symm)
  have HTK := Lib.hid hwt.1
  have HLL := Lib.hid hL
  obtain ⟨v, hv⟩ : ∃ v, tb t.tx = v := ⟨_, rfl⟩
  have HV := Lib.hid hv
  have HTV := Lib.hid (show tb (curTx s i) = v by rw [et]; exact hv)
  have HTT := Lib.hid eh
  have hu0 : 0 < v.size := by rw [← hv, tb_size, htx]; simp
  have hu1 : v[0] = c0 := by
    subst hv
    have h1 : (tb t.tx).data.toList[0]? = some c0 := by rw [tb_data, htx]; rfl
    have h2 : (tb t.tx).data.toList[0]? = some (tb t.tx)[0] := by
      rw [List.getElem?_eq_getElem (by rw [data_len]; exact hu0)]; rfl
    rw [h2] at h1
    injection h1
  have hem : v.toList.isEmpty = false := by
    cases h : v.toList.isEmpty with
    | false => rfl
    | true =>
      have h1 : v.toList = [] := List.isEmpty_iff.1 h
      have h2 : (v.toList == (⟨#[]⟩ : ByteArray).toList) = true := by rw [h1]; simp
      have h3 : (v.toList == (⟨#[]⟩ : ByteArray).toList) = false := strEq_false (fun e => by rw [e] at hu0; exact absurd hu0 (by decide))
      rw [h3] at h2; cases h2
  have HDG := Lib.hid (show ∀ w', Calls Tryz.prog 80 #[.int .u8 (v[0].toNat : Nat)] w' fun e w'' => e = .returned (.bool (digB c0)) ∧ w' = w'' from fun w' => by rw [hu1]; exact isDigit_any c0 w')
  have HLW := Lib.hid (show ∀ w', Calls Tryz.prog 78 #[.int .u8 (v[0].toNat : Nat)] w' fun e w'' => e = .returned (.bool (lowB c0)) ∧ w' = w'' from fun w' => by rw [hu1]; exact isLower_any c0 w')
  have HRV := Lib.hid (show ∀ w', Calls Tryz.prog 100 #[.string v] w' fun e w'' => e = .returned (.bool (reservedL.contains t.tx)) ∧ w' = w'' from fun w' => by
    have h1 := isReserved_any v w'
    rwa [show v.data.toList = t.tx from by rw [← hv, tb_data]] at h1)
  have HW0 := Lib.hid (fun W (hp : PaAt W g s i) => wrong_any g s i W hp)
  have hcb : constB t.tx = ((digB c0 || decide (c0 = 64) || decide (c0 = 35) || decide (c0 = 39) || decide (c0 = 123)) || decide (t.tx = trueT) || decide (t.tx = falseT)) := by
    unfold constB
    congr 1
    congr 1
    rw [htx]
  have hnb : nameB t.tx = (lowB c0 && !reservedL.contains t.tx) := by
    unfold nameB
    congr 1
    rw [htx]
  have hstr : ∀ l : List UInt8, t.tx = l → (v.toList == (tb l).toList) = true := fun l h => strEq_true (by rw [← hv, h])
  have hstr' : ∀ l : List UInt8, t.tx ≠ l → (v.toList == (tb l).toList) = false := fun l h => strEq_false (fun e => h (tb_inj (by rw [hv, e])))
  have hc : constB t.tx = false := by rw [hp40]; decide
  have h40 : c0 = 40 := by rw [htx] at hp40; injection hp40
  have HPZ := Lib.hid (prim_paren (n := s.data.toList.length) (r := r) ht hp40)
  rw [ht] at HTT
  obtain ⟨R, hR⟩ : ∃ R, Pz s.data.toList.length .primary [] (t :: r) = R := ⟨_, rfl⟩
  rw [hR] at HPZ ⊢
  rw [hcb] at hc
  simp only [Bool.or_eq_false_iff, decide_eq_false_iff_not] at hc
  obtain ⟨⟨⟨⟨⟨⟨h0, h64⟩, h35⟩, h39⟩, h123⟩, ht1⟩, hf1⟩ := hc
  rw [h0] at HDG
  have q64 : ((v[0].toNat : Int) == 64) = false := by
    have h1 : v[0].toNat ≠ 64 := fun e => h64 (by rw [← hu1]; exact UInt8.toNat_inj.1 e)
    simp; omega
  have p64 : (v[0].toNat == 64) = false := by
    have h1 : v[0].toNat ≠ 64 := fun e => h64 (by rw [← hu1]; exact UInt8.toNat_inj.1 e)
    simp; omega
  have q35 : ((v[0].toNat : Int) == 35) = false := by
    have h1 : v[0].toNat ≠ 35 := fun e => h35 (by rw [← hu1]; exact UInt8.toNat_inj.1 e)
    simp; omega
  have p35 : (v[0].toNat == 35) = false := by
    have h1 : v[0].toNat ≠ 35 := fun e => h35 (by rw [← hu1]; exact UInt8.toNat_inj.1 e)
    simp; omega
  have q39 : ((v[0].toNat : Int) == 39) = false := by
    have h1 : v[0].toNat ≠ 39 := fun e => h39 (by rw [← hu1]; exact UInt8.toNat_inj.1 e)
    simp; omega
  have p39 : (v[0].toNat == 39) = false := by
    have h1 : v[0].toNat ≠ 39 := fun e => h39 (by rw [← hu1]; exact UInt8.toNat_inj.1 e)
    simp; omega
  have q123 : ((v[0].toNat : Int) == 123) = false := by
    have h1 : v[0].toNat ≠ 123 := fun e => h123 (by rw [← hu1]; exact UInt8.toNat_inj.1 e)
    simp; omega
  have p123 : (v[0].toNat == 123) = false := by
    have h1 : v[0].toNat ≠ 123 := fun e => h123 (by rw [← hu1]; exact UInt8.toNat_inj.1 e)
    simp; omega
  have st : (v.toList == [116, 114, 117, 101]) = false := by have h := hstr' [116, 114, 117, 101] ht1; simpa [tb] using h
  have sf : (v.toList == [102, 97, 108, 115, 101]) = false := by have h := hstr' [102, 97, 108, 115, 101] hf1; simpa [tb] using h
  have q40 : ((v[0].toNat : Int) == 40) = true := by rw [hu1, h40]; rfl
  have p40 : (v[0].toNat == 40) = true := by rw [hu1, h40]; rfl
  obtain ⟨i1, hi1⟩ : ∃ i1, curAt s i + (curTx s i).length = i1 := ⟨_, rfl⟩
  have HI1 := Lib.hid hi1
  rw [hi1] at HTR
  have HPP := Lib.hid hP
  clear hR hi1 hP
  clear hu1 hcb hnb hstr hstr' hwt ea et eh htx h32 hc0 hul hv hL hp hm
  go_enter Tryz.func159, Tryz.ntmps159
  go_upto_region 1 with (fail)
  obtain ⟨W, hW⟩ : ∃ W, W = w.alloc (.cells #[.int .i64 0, .int .i64 0, .string ⟨#[]⟩, .int .i64 0, .int .i64 0, .string ⟨#[]⟩, .slice none 0 0, .slice none 0 0] 27 (0, 0)) := ⟨_, rfl⟩
  have hkW : Kp g w W := by rw [hW]; exact (kp_refl g w).alloc _
  have HPW := Lib.hid (show PaAt W g s i by rw [hW]; exact HPA.out.alloc _)
  have HMW := Lib.hid (HM.out.kp hkW)
  have BR : Blk W w.heap.size 27 #[.int .i64 0, .int .i64 0, .string ⟨#[]⟩, .int .i64 0, .int .i64 0, .string ⟨#[]⟩, .slice none 0 0, .slice none 0 0] := by rw [hW]; exact Blk.new w _ _
  have hWs : w.heap.size < W.heap.size := BR.lt
  have hszW : W.heap.size = w.heap.size + 1 := by rw [hW]; simp
  have HBR := Lib.hid BR
  rw [← hW]
  clear hW BR
  have d2 : W.cell? ⟨g, 2, none⟩ = some (.string v) := by have h := HPW.out.b.cell 2; rw [show tb (curTx s i) = v from HTV.out] at h; exact h
  have d3 : W.cell? ⟨g, 3, none⟩ = some (.bool false) := by have h := HPW.out.b.cell 3; rw [HTT.out] at h; exact h
  have HNX := Lib.hid (next_any g s i W HPW.out)
  rw [HI1.out] at HNX
  go_wp2_with (first | (go_at_call 80; (with_reducible refine (HDG.out _).mono ?_); rintro e w1 ⟨rfl, rfl⟩) | (go_at_call 30; (with_reducible refine HNX.out.mono ?_); rintro e w2 ⟨rfl, hp2, hk2⟩))
  have HP2 := Lib.hid hp2
  have HK2 := Lib.hid (hkW.trans hk2)
  have HBR2 := Lib.hid (HBR.out.kp hk2 (by omega))
  have hsz2 : W.heap.size ≤ w2.heap.size := hk2.size
  have HC := HPP.out r (Nat.le_refl _) g i1 w2 HP2.out (HM.out.kp HK2.out) HTR.out.symm
  obtain ⟨r2, hr2⟩ : ∃ r2, Pz s.data.toList.length .or [] r = r2 := ⟨_, rfl⟩
  rw [hr2] at HC HPZ
  refine HC.mono ?_
  clear HC hr2 hp2 hk2
  cases r2 with
  | err k =>
    rintro e w3 ⟨rfl, hk3⟩
    have hend : R = .err k := HPZ.out
    go_wp2_with fail
    refine ⟨rfl, ?_⟩
    rw [hend]
    exact ⟨rfl, HK2.out.trans hk3⟩
  | ok es l1 =>
    rintro e w3 ⟨y, i2, cs3, rfl, rfl, rfl, hx3, hp3, hk3⟩
    have HX3 := Lib.hid hx3
    obtain ⟨hn3, hs3, hl3, ha3, hxx3, hrr3, hii3⟩ := hx3
    rename_i A1 c1 A2 c2 csi3
    clear hxx3 hrr3 hii3 hn3 hs3 hl3 ha3
    have exa3 : (exCells y A1 c1 A2 c2).toArray = #[.int .i64 y.k, .int .i64 y.op, .string y.nm, .int .i64 y.v.k, .int .i64 y.v.n, .string y.v.s, .slice A1 y.v.l.length c1, .slice A2 y.ar.length c2] := rfl
    rw [exa3]
    clear exa3
    have hsz3 : w2.heap.size ≤ w3.heap.size := hk3.size
    have HPZ := Lib.hid (show R = takeF s.data.toList.length [41] (wordsOf s.data.toList i2) fun l2 => .ok [y] l2 from HPZ.out)
    have HP3 := Lib.hid hp3
    have HK3 := Lib.hid (HK2.out.trans hk3)
    have HBR3 := Lib.hid (HBR2.out.kp hk3 (by omega))
    clear hp3 hk3
    go_upto_region 9 with (fail)
    obtain ⟨W3, hW3⟩ : ∃ W3, W3 = w3.alloc (.cells #[.int .i64 y.k, .int .i64 y.op, .string y.nm, .int .i64 y.v.k, .int .i64 y.v.n, .string y.v.s, .slice A1 y.v.l.length c1, .slice A2 y.ar.length c2] 27 (0, 0)) := ⟨_, rfl⟩
    have HPW3 := Lib.hid (show PaAt W3 g s i2 by rw [hW3]; exact HP3.out.alloc _)
    have HKW3 := Lib.hid (show Kp g w W3 by rw [hW3]; exact HK3.out.alloc _)
    have HBRW3 := Lib.hid (show Blk W3 w.heap.size 27 #[.int .i64 0, .int .i64 0, .string ⟨#[]⟩, .int .i64 0, .int .i64 0, .string ⟨#[]⟩, .slice none 0 0, .slice none 0 0] by rw [hW3]; exact HBR3.out.alloc _)
    have HBYW3 := Lib.hid (show Blk W3 w3.heap.size 27 #[.int .i64 y.k, .int .i64 y.op, .string y.nm, .int .i64 y.v.k, .int .i64 y.v.n, .string y.v.s, .slice A1 y.v.l.length c1, .slice A2 y.ar.length c2] by rw [hW3]; exact Blk.new w3 _ _)
    have HXW3 := Lib.hid (show ExIn W3 (fun b => W.heap.size ≤ b) W3.heap.size y (exCells y A1 c1 A2 c2) by
      rw [hW3]
      exact ((HX3.out.imp (q := fun b => W.heap.size ≤ b) (fun k hk _ => by omega)).keep (Stay.of ((Below.refl _ _).alloc (Nat.le_refl _) _))).up (by simp))
    have hgw3 : g < w3.heap.size := HP3.out.b.lt
    rw [← hW3]
    clear hW3
    go_wp2_with fail
    have HTKT := take_any g s i2 W3 HPW3.out [41] (by decide)
    obtain ⟨i6, hi6⟩ : ∃ i6, curAt s i2 + (curTx s i2).length = i6 := ⟨_, rfl⟩
    have htl := fun h => words_tail (s := s) (i := i2) (word := [41]) h
    rw [show tb [41] = ⟨#[41]⟩ from rfl, hi6] at HTKT
    rw [hi6] at htl
    refine HTKT.mono ?_
    intro e w8 htk
    obtain ⟨b5, hb5⟩ : ∃ b, isW (wordsOf s.data.toList i2) [41] = b := ⟨_, rfl⟩
    rw [hb5] at htk
    cases b5
    · rw [if_neg (by decide)] at htk
      obtain ⟨rfl, rfl⟩ := htk
      have hend : R = .err (curAt s i2) := by rw [HPZ.out]; unfold takeF; rw [if_neg (by rw [hb5]; decide), place_cur]
      have HEND := Lib.hid hend
      clear hend HTKT htl hi6
      go_wp2_with fail
      refine ⟨rfl, ?_⟩
      rw [HEND.out]
      exact ⟨rfl, HKW3.out⟩
    · rw [if_pos rfl] at htk
      obtain ⟨rfl, hp8, hk8⟩ := htk
      have hend : R = .ok [y] (wordsOf s.data.toList i6) := by rw [HPZ.out]; unfold takeF; rw [if_pos hb5, ← (htl hb5).1]
      have HEND := Lib.hid hend
      have HX8 := Lib.hid (HXW3.out.kpq hk8 (fun k hk => by omega))
      have HP8 := Lib.hid hp8
      have HK8 := Lib.hid (HKW3.out.trans hk8)
      have B8 := HBYW3.out.kp hk8 (by omega)
      have BR8 := HBRW3.out.kp hk8 (by omega)
      clear hend HTKT htl hi6 hb5 hp8 hk8
      have ec0 : w8.cell? ⟨w3.heap.size, 0, none⟩ = some (.int .i64 y.k) := B8.cell 0
      have ec1 : w8.cell? ⟨w3.heap.size, 1, none⟩ = some (.int .i64 y.op) := B8.cell 1
      have ec2 : w8.cell? ⟨w3.heap.size, 2, none⟩ = some (.string y.nm) := B8.cell 2
      have ec3 : w8.cell? ⟨w3.heap.size, 3, none⟩ = some (.int .i64 y.v.k) := B8.cell 3
      have ec4 : w8.cell? ⟨w3.heap.size, 4, none⟩ = some (.int .i64 y.v.n) := B8.cell 4
      have ec5 : w8.cell? ⟨w3.heap.size, 5, none⟩ = some (.string y.v.s) := B8.cell 5
      have ec6 : w8.cell? ⟨w3.heap.size, 6, none⟩ = some (.slice A1 y.v.l.length c1) := B8.cell 6
      have ec7 : w8.cell? ⟨w3.heap.size, 7, none⟩ = some (.slice A2 y.ar.length c2) := B8.cell 7
      have rc0 : w8.cell? ⟨w.heap.size, 0, none⟩ = some (.int .i64 0) := BR8.cell 0
      have rz0 : w8.frozen? ⟨w.heap.size, 0, none⟩ = false := BR8.frozen 0
      have rc1 : w8.cell? ⟨w.heap.size, 1, none⟩ = some (.int .i64 0) := BR8.cell 1
      have rz1 : w8.frozen? ⟨w.heap.size, 1, none⟩ = false := BR8.frozen 1
      have rc2 : w8.cell? ⟨w.heap.size, 2, none⟩ = some (.string ⟨#[]⟩) := BR8.cell 2
      have rz2 : w8.frozen? ⟨w.heap.size, 2, none⟩ = false := BR8.frozen 2
      have rc3 : w8.cell? ⟨w.heap.size, 3, none⟩ = some (.int .i64 0) := BR8.cell 3
      have rz3 : w8.frozen? ⟨w.heap.size, 3, none⟩ = false := BR8.frozen 3
      have rc4 : w8.cell? ⟨w.heap.size, 4, none⟩ = some (.int .i64 0) := BR8.cell 4
      have rz4 : w8.frozen? ⟨w.heap.size, 4, none⟩ = false := BR8.frozen 4
      have rc5 : w8.cell? ⟨w.heap.size, 5, none⟩ = some (.string ⟨#[]⟩) := BR8.cell 5
      have rz5 : w8.frozen? ⟨w.heap.size, 5, none⟩ = false := BR8.frozen 5
      have rc6 : w8.cell? ⟨w.heap.size, 6, none⟩ = some (.slice none 0 0) := BR8.cell 6
      have rz6 : w8.frozen? ⟨w.heap.size, 6, none⟩ = false := BR8.frozen 6
      have rc7 : w8.cell? ⟨w.heap.size, 7, none⟩ = some (.slice none 0 0) := BR8.cell 7
      have rz7 : w8.frozen? ⟨w.heap.size, 7, none⟩ = false := BR8.frozen 7
      go_wp2_with fail
      refine bodyPost_ret (v := .agg #[.int .i64 y.k, .int .i64 y.op, .string y.nm, .int .i64 y.v.k, .int .i64 y.v.n, .string y.v.s, .slice A1 y.v.l.length c1, .slice A2 y.ar.length c2]) (by simp [results, Tryz.results159, go_sem, rc0, rc1, rc2, rc3, rc4, rc5, rc6, rc7]) rfl ?_
      rw [HEND.out]
      exact ret8 HX8.out hWs hlt HP8.out HK8.out
set_option maxHeartbeats 8000000 in
set_option maxRecDepth 100000 in
theorem primary_bad (g : Nat) (s : ByteArray) (i : Nat) (w : World) (hp : PaAt w g s i) (hm : TM w g) (t : Tok) (r : List Tok) (hL : wordsOf s.data.toList i = t :: r) (ht : t.touch = false) (hc : constB t.tx = false) (hp40 : t.tx ≠ [40]) (hn : nameB t.tx = false) :
    Calls Tryz.prog 159 #[.pointer (some ⟨g, 0, none⟩)] w fun e w' => PRet w g s (Pz s.data.toList.length .primary [] (t :: r)) e w' := by
  have HPA := Lib.hid hp
  have HM := Lib.hid hm
  have hlt := hp.b.lt
  have hs4 := hp.s
  have hwt := word_tok hL
  obtain ⟨ea, et, eh⟩ := cur_of hwt.1
  obtain ⟨tl, htx, h32⟩ := tok_head hwt.1
  obtain ⟨c0, hc0⟩ : ∃ c, s.data.toList.getD t.at_ 0 = c := ⟨_, rfl⟩
  rw [hc0] at htx
  have hul := tok_in hwt.1
  rw [data_len] at hul
  have HTR := Lib.hid (show r = wordsOf s.data.toList (curAt s i + (curTx s i).length) by rw [ea, et]; exact hwt.2)
  have HTA := Lib.hid (show t.at_ = curAt s i from ea.symm)
  have HTK := Lib.hid hwt.1
  have HLL := Lib.hid hL
  obtain ⟨v, hv⟩ : ∃ v, tb t.tx = v := ⟨_, rfl⟩
  have HV := Lib.hid hv
  have HTV := Lib.hid (show tb (curTx s i) = v by rw [et]; exact hv)
  have HTT := Lib.hid eh
  have hu0 : 0 < v.size := by rw [← hv, tb_size, htx]; simp
  have hu1 : v[0] = c0 := by
    subst hv
    have h1 : (tb t.tx).data.toList[0]? = some c0 := by rw [tb_data, htx]; rfl
    have h2 : (tb t.tx).data.toList[0]? = some (tb t.tx)[0] := by
      rw [List.getElem?_eq_getElem (by rw [data_len]; exact hu0)]; rfl
    rw [h2] at h1
    injection h1
  have hem : v.toList.isEmpty = false := by
    cases h : v.toList.isEmpty with
    | false => rfl
    | true =>
      have h1 : v.toList = [] := List.isEmpty_iff.1 h
      have h2 : (v.toList == (⟨#[]⟩ : ByteArray).toList) = true := by rw [h1]; simp
      have h3 : (v.toList == (⟨#[]⟩ : ByteArray).toList) = false := strEq_false (fun e => by rw [e] at hu0; exact absurd hu0 (by decide))
      rw [h3] at h2; cases h2
  have HDG := Lib.hid (show ∀ w', Calls Tryz.prog 80 #[.int .u8 (v[0].toNat : Nat)] w' fun e w'' => e = .returned (.bool (digB c0)) ∧ w' = w'' from fun w' => by rw [hu1]; exact isDigit_any c0 w')
  have HLW := Lib.hid (show ∀ w', Calls Tryz.prog 78 #[.int .u8 (v[0].toNat : Nat)] w' fun e w'' => e = .returned (.bool (lowB c0)) ∧ w' = w'' from fun w' => by rw [hu1]; exact isLower_any c0 w')
  have HRV := Lib.hid (show ∀ w', Calls Tryz.prog 100 #[.string v] w' fun e w'' => e = .returned (.bool (reservedL.contains t.tx)) ∧ w' = w'' from fun w' => by
    have h1 := isReserved_any v w'
    rwa [show v.data.toList = t.tx from by rw [← hv, tb_data]] at h1)
  have HW0 := Lib.hid (fun W (hp : PaAt W g s i) => wrong_any g s i W hp)
  have hcb : constB t.tx = ((digB c0 || decide (c0 = 64) || decide (c0 = 35) || decide (c0 = 39) || decide (c0 = 123)) || decide (t.tx = trueT) || decide (t.tx = falseT)) := by
    unfold constB
    congr 1
    congr 1
    rw [htx]
  have hnb : nameB t.tx = (lowB c0 && !reservedL.contains t.tx) := by
    unfold nameB
    congr 1
    rw [htx]
  have hstr : ∀ l : List UInt8, t.tx = l → (v.toList == (tb l).toList) = true := fun l h => strEq_true (by rw [← hv, h])
  have hstr' : ∀ l : List UInt8, t.tx ≠ l → (v.toList == (tb l).toList) = false := fun l h => strEq_false (fun e => h (tb_inj (by rw [hv, e])))
  have h40 : c0 ≠ 40 := fun e => hp40 (tok_paren hwt.1 (w := tl) (by rw [htx, e]))
  rw [prim_bad ht hc hp40 hn, HTA.out]
  rw [ht] at HTT
  rw [hcb] at hc
  simp only [Bool.or_eq_false_iff, decide_eq_false_iff_not] at hc
  obtain ⟨⟨⟨⟨⟨⟨h0, h64⟩, h35⟩, h39⟩, h123⟩, ht1⟩, hf1⟩ := hc
  rw [h0] at HDG
  have q64 : ((v[0].toNat : Int) == 64) = false := by
    have h1 : v[0].toNat ≠ 64 := fun e => h64 (by rw [← hu1]; exact UInt8.toNat_inj.1 e)
    simp; omega
  have p64 : (v[0].toNat == 64) = false := by
    have h1 : v[0].toNat ≠ 64 := fun e => h64 (by rw [← hu1]; exact UInt8.toNat_inj.1 e)
    simp; omega
  have q35 : ((v[0].toNat : Int) == 35) = false := by
    have h1 : v[0].toNat ≠ 35 := fun e => h35 (by rw [← hu1]; exact UInt8.toNat_inj.1 e)
    simp; omega
  have p35 : (v[0].toNat == 35) = false := by
    have h1 : v[0].toNat ≠ 35 := fun e => h35 (by rw [← hu1]; exact UInt8.toNat_inj.1 e)
    simp; omega
  have q39 : ((v[0].toNat : Int) == 39) = false := by
    have h1 : v[0].toNat ≠ 39 := fun e => h39 (by rw [← hu1]; exact UInt8.toNat_inj.1 e)
    simp; omega
  have p39 : (v[0].toNat == 39) = false := by
    have h1 : v[0].toNat ≠ 39 := fun e => h39 (by rw [← hu1]; exact UInt8.toNat_inj.1 e)
    simp; omega
  have q123 : ((v[0].toNat : Int) == 123) = false := by
    have h1 : v[0].toNat ≠ 123 := fun e => h123 (by rw [← hu1]; exact UInt8.toNat_inj.1 e)
    simp; omega
  have p123 : (v[0].toNat == 123) = false := by
    have h1 : v[0].toNat ≠ 123 := fun e => h123 (by rw [← hu1]; exact UInt8.toNat_inj.1 e)
    simp; omega
  have st : (v.toList == [116, 114, 117, 101]) = false := by have h := hstr' [116, 114, 117, 101] ht1; simpa [tb] using h
  have sf : (v.toList == [102, 97, 108, 115, 101]) = false := by have h := hstr' [102, 97, 108, 115, 101] hf1; simpa [tb] using h
  have q40 : ((v[0].toNat : Int) == 40) = false := by
    have h1 : v[0].toNat ≠ 40 := fun e => h40 (by rw [← hu1]; exact UInt8.toNat_inj.1 e)
    simp; omega
  have p40 : (v[0].toNat == 40) = false := by
    have h1 : v[0].toNat ≠ 40 := fun e => h40 (by rw [← hu1]; exact UInt8.toNat_inj.1 e)
    simp; omega
  rw [hnb] at hn
  by_cases hl : lowB c0 = true
  · rw [hl] at hn HLW
    have hr : reservedL.contains t.tx = true := by simpa using hn
    rw [hr] at HRV
    clear hl hn hr
    clear hu1 hcb hnb hstr hstr' hwt ea et eh htx h32 hc0 hul hv hL hp hm
    go_enter Tryz.func159, Tryz.ntmps159
    go_upto_region 1 with (fail)
    obtain ⟨W, hW⟩ : ∃ W, W = w.alloc (.cells #[.int .i64 0, .int .i64 0, .string ⟨#[]⟩, .int .i64 0, .int .i64 0, .string ⟨#[]⟩, .slice none 0 0, .slice none 0 0] 27 (0, 0)) := ⟨_, rfl⟩
    have hkW : Kp g w W := by rw [hW]; exact (kp_refl g w).alloc _
    have HPW := Lib.hid (show PaAt W g s i by rw [hW]; exact HPA.out.alloc _)
    have HMW := Lib.hid (HM.out.kp hkW)
    have BR : Blk W w.heap.size 27 #[.int .i64 0, .int .i64 0, .string ⟨#[]⟩, .int .i64 0, .int .i64 0, .string ⟨#[]⟩, .slice none 0 0, .slice none 0 0] := by rw [hW]; exact Blk.new w _ _
    have hWs : w.heap.size < W.heap.size := BR.lt
    have hszW : W.heap.size = w.heap.size + 1 := by rw [hW]; simp
    have HBR := Lib.hid BR
    rw [← hW]
    clear hW BR
    have d2 : W.cell? ⟨g, 2, none⟩ = some (.string v) := by have h := HPW.out.b.cell 2; rw [show tb (curTx s i) = v from HTV.out] at h; exact h
    have d3 : W.cell? ⟨g, 3, none⟩ = some (.bool false) := by have h := HPW.out.b.cell 3; rw [HTT.out] at h; exact h
    go_wp2_with (first | (go_at_call 80; (with_reducible refine (HDG.out _).mono ?_); rintro e w1 ⟨rfl, rfl⟩) | (go_at_call 78; (with_reducible refine (HLW.out _).mono ?_); rintro e w1 ⟨rfl, rfl⟩) | (go_at_call 100; (with_reducible refine (HRV.out _).mono ?_); rintro e w1 ⟨rfl, rfl⟩) | (go_at_call 32; (with_reducible refine (HW0.out _ HPW.out).mono ?_); rintro e w1 ⟨rfl, rfl⟩))
    exact ⟨rfl, rfl, hkW⟩
  · rw [Bool.eq_false_iff.2 hl] at HLW
    clear hl hn
    clear hu1 hcb hnb hstr hstr' hwt ea et eh htx h32 hc0 hul hv hL hp hm
    go_enter Tryz.func159, Tryz.ntmps159
    go_upto_region 1 with (fail)
    obtain ⟨W, hW⟩ : ∃ W, W = w.alloc (.cells #[.int .i64 0, .int .i64 0, .string ⟨#[]⟩, .int .i64 0, .int .i64 0, .string ⟨#[]⟩, .slice none 0 0, .slice none 0 0] 27 (0, 0)) := ⟨_, rfl⟩
    have hkW : Kp g w W := by rw [hW]; exact (kp_refl g w).alloc _
    have HPW := Lib.hid (show PaAt W g s i by rw [hW]; exact HPA.out.alloc _)
    have HMW := Lib.hid (HM.out.kp hkW)
    have BR : Blk W w.heap.size 27 #[.int .i64 0, .int .i64 0, .string ⟨#[]⟩, .int .i64 0, .int .i64 0, .string ⟨#[]⟩, .slice none 0 0, .slice none 0 0] := by rw [hW]; exact Blk.new w _ _
    have hWs : w.heap.size < W.heap.size := BR.lt
    have hszW : W.heap.size = w.heap.size + 1 := by rw [hW]; simp
    have HBR := Lib.hid BR
    rw [← hW]
    clear hW BR
    have d2 : W.cell? ⟨g, 2, none⟩ = some (.string v) := by have h := HPW.out.b.cell 2; rw [show tb (curTx s i) = v from HTV.out] at h; exact h
    have d3 : W.cell? ⟨g, 3, none⟩ = some (.bool false) := by have h := HPW.out.b.cell 3; rw [HTT.out] at h; exact h
    go_wp2_with (first | (go_at_call 80; (with_reducible refine (HDG.out _).mono ?_); rintro e w1 ⟨rfl, rfl⟩) | (go_at_call 78; (with_reducible refine (HLW.out _).mono ?_); rintro e w1 ⟨rfl, rfl⟩) | (go_at_call 32; (with_reducible refine (HW0.out _ HPW.out).mono ?_); rintro e w1 ⟨rfl, rfl⟩))
    exact ⟨rfl, rfl, hkW⟩
set_option maxHeartbeats 8000000 in
set_option maxRecDepth 100000 in
theorem primary_plain (g : Nat) (s : ByteArray) (i : Nat) (w : World) (hp : PaAt w g s i) (hm : TM w g) (t : Tok) (r : List Tok) (hL : wordsOf s.data.toList i = t :: r) (ht : t.touch = false) (hc : constB t.tx = false) (hp40 : t.tx ≠ [40]) (hn : nameB t.tx = true) (hd : calledB t r = false) :
    Calls Tryz.prog 159 #[.pointer (some ⟨g, 0, none⟩)] w fun e w' => PRet w g s (Pz s.data.toList.length .primary [] (t :: r)) e w' := by
  have HPA := Lib.hid hp
  have HM := Lib.hid hm
  have hlt := hp.b.lt
  have hs4 := hp.s
  have hwt := word_tok hL
  obtain ⟨ea, et, eh⟩ := cur_of hwt.1
  obtain ⟨tl, htx, h32⟩ := tok_head hwt.1
  obtain ⟨c0, hc0⟩ : ∃ c, s.data.toList.getD t.at_ 0 = c := ⟨_, rfl⟩
  rw [hc0] at htx
  have hul := tok_in hwt.1
  rw [data_len] at hul
  have HTR := Lib.hid (show r = wordsOf s.data.toList (curAt s i + (curTx s i).length) by rw [ea, et]; exact hwt.2)
  have HTA := Lib.hid (show t.at_ = curAt s i from ea.symm)
  have HTK := Lib.hid hwt.1
  have HLL := Lib.hid hL
  obtain ⟨v, hv⟩ : ∃ v, tb t.tx = v := ⟨_, rfl⟩
  have HV := Lib.hid hv
  have HTV := Lib.hid (show tb (curTx s i) = v by rw [et]; exact hv)
  have HTT := Lib.hid eh
  have hu0 : 0 < v.size := by rw [← hv, tb_size, htx]; simp
  have hu1 : v[0] = c0 := by
    subst hv
    have h1 : (tb t.tx).data.toList[0]? = some c0 := by rw [tb_data, htx]; rfl
    have h2 : (tb t.tx).data.toList[0]? = some (tb t.tx)[0] := by
      rw [List.getElem?_eq_getElem (by rw [data_len]; exact hu0)]; rfl
    rw [h2] at h1
    injection h1
  have hem : v.toList.isEmpty = false := by
    cases h : v.toList.isEmpty with
    | false => rfl
    | true =>
      have h1 : v.toList = [] := List.isEmpty_iff.1 h
      have h2 : (v.toList == (⟨#[]⟩ : ByteArray).toList) = true := by rw [h1]; simp
      have h3 : (v.toList == (⟨#[]⟩ : ByteArray).toList) = false := strEq_false (fun e => by rw [e] at hu0; exact absurd hu0 (by decide))
      rw [h3] at h2; cases h2
  have HDG := Lib.hid (show ∀ w', Calls Tryz.prog 80 #[.int .u8 (v[0].toNat : Nat)] w' fun e w'' => e = .returned (.bool (digB c0)) ∧ w' = w'' from fun w' => by rw [hu1]; exact isDigit_any c0 w')
  have HLW := Lib.hid (show ∀ w', Calls Tryz.prog 78 #[.int .u8 (v[0].toNat : Nat)] w' fun e w'' => e = .returned (.bool (lowB c0)) ∧ w' = w'' from fun w' => by rw [hu1]; exact isLower_any c0 w')
  have HRV := Lib.hid (show ∀ w', Calls Tryz.prog 100 #[.string v] w' fun e w'' => e = .returned (.bool (reservedL.contains t.tx)) ∧ w' = w'' from fun w' => by
    have h1 := isReserved_any v w'
    rwa [show v.data.toList = t.tx from by rw [← hv, tb_data]] at h1)
  have HW0 := Lib.hid (fun W (hp : PaAt W g s i) => wrong_any g s i W hp)
  have hcb : constB t.tx = ((digB c0 || decide (c0 = 64) || decide (c0 = 35) || decide (c0 = 39) || decide (c0 = 123)) || decide (t.tx = trueT) || decide (t.tx = falseT)) := by
    unfold constB
    congr 1
    congr 1
    rw [htx]
  have hnb : nameB t.tx = (lowB c0 && !reservedL.contains t.tx) := by
    unfold nameB
    congr 1
    rw [htx]
  have hstr : ∀ l : List UInt8, t.tx = l → (v.toList == (tb l).toList) = true := fun l h => strEq_true (by rw [← hv, h])
  have hstr' : ∀ l : List UInt8, t.tx ≠ l → (v.toList == (tb l).toList) = false := fun l h => strEq_false (fun e => h (tb_inj (by rw [hv, e])))
  have h40 : c0 ≠ 40 := fun e => hp40 (tok_paren hwt.1 (w := tl) (by rw [htx, e]))
  rw [ht] at HTT
  have HPZ := Lib.hid (prim_plain (n := s.data.toList.length) (r := r) ht hc hp40 hn hd)
  obtain ⟨R, hR⟩ : ∃ R, Pz s.data.toList.length .primary [] (t :: r) = R := ⟨_, rfl⟩
  rw [hR] at HPZ ⊢
  rw [hcb] at hc
  simp only [Bool.or_eq_false_iff, decide_eq_false_iff_not] at hc
  obtain ⟨⟨⟨⟨⟨⟨h0, h64⟩, h35⟩, h39⟩, h123⟩, ht1⟩, hf1⟩ := hc
  rw [h0] at HDG
  have q64 : ((v[0].toNat : Int) == 64) = false := by
    have h1 : v[0].toNat ≠ 64 := fun e => h64 (by rw [← hu1]; exact UInt8.toNat_inj.1 e)
    simp; omega
  have p64 : (v[0].toNat == 64) = false := by
    have h1 : v[0].toNat ≠ 64 := fun e => h64 (by rw [← hu1]; exact UInt8.toNat_inj.1 e)
    simp; omega
  have q35 : ((v[0].toNat : Int) == 35) = false := by
    have h1 : v[0].toNat ≠ 35 := fun e => h35 (by rw [← hu1]; exact UInt8.toNat_inj.1 e)
    simp; omega
  have p35 : (v[0].toNat == 35) = false := by
    have h1 : v[0].toNat ≠ 35 := fun e => h35 (by rw [← hu1]; exact UInt8.toNat_inj.1 e)
    simp; omega
  have q39 : ((v[0].toNat : Int) == 39) = false := by
    have h1 : v[0].toNat ≠ 39 := fun e => h39 (by rw [← hu1]; exact UInt8.toNat_inj.1 e)
    simp; omega
  have p39 : (v[0].toNat == 39) = false := by
    have h1 : v[0].toNat ≠ 39 := fun e => h39 (by rw [← hu1]; exact UInt8.toNat_inj.1 e)
    simp; omega
  have q123 : ((v[0].toNat : Int) == 123) = false := by
    have h1 : v[0].toNat ≠ 123 := fun e => h123 (by rw [← hu1]; exact UInt8.toNat_inj.1 e)
    simp; omega
  have p123 : (v[0].toNat == 123) = false := by
    have h1 : v[0].toNat ≠ 123 := fun e => h123 (by rw [← hu1]; exact UInt8.toNat_inj.1 e)
    simp; omega
  have st : (v.toList == [116, 114, 117, 101]) = false := by have h := hstr' [116, 114, 117, 101] ht1; simpa [tb] using h
  have sf : (v.toList == [102, 97, 108, 115, 101]) = false := by have h := hstr' [102, 97, 108, 115, 101] hf1; simpa [tb] using h
  have q40 : ((v[0].toNat : Int) == 40) = false := by
    have h1 : v[0].toNat ≠ 40 := fun e => h40 (by rw [← hu1]; exact UInt8.toNat_inj.1 e)
    simp; omega
  have p40 : (v[0].toNat == 40) = false := by
    have h1 : v[0].toNat ≠ 40 := fun e => h40 (by rw [← hu1]; exact UInt8.toNat_inj.1 e)
    simp; omega
  rw [hnb, Bool.and_eq_true] at hn
  rw [hn.1] at HLW
  have hr : reservedL.contains t.tx = false := by simpa using hn.2
  rw [hr] at HRV
  obtain ⟨P0, hP0⟩ : ∃ P0, t.at_ = P0 := ⟨_, rfl⟩
  obtain ⟨J, hJ⟩ : ∃ J, P0 + v.size = J := ⟨_, rfl⟩
  have hJt : J = t.at_ + t.tx.length := by rw [← hJ, ← hP0, ← hv, tb_size]
  have hcall := called_iff (s := s.data.toList) (t := t) hJt
  have hrJ : r = wordsOf s.data.toList J := by rw [hJt]; exact hwt.2
  rw [← hrJ, hd, data_len] at hcall
  have hJs : J ≤ s.size := by rw [hJt]; omega
  have HP0 := Lib.hid (show curAt s i = P0 by rw [ea, hP0])
  have hJi : ((P0 : Nat) : Int) + (v.size : Nat) = (J : Nat) := by omega
  have hJw : IntKind.i64.wrap (((P0 : Nat) : Int) + (v.size : Nat)) = (J : Nat) := by rw [hJi]; exact IntWalk.i64_in _ (by omega)
  obtain ⟨i1, hi1⟩ : ∃ i1, curAt s i + (curTx s i).length = i1 := ⟨_, rfl⟩
  have HI1 := Lib.hid hi1
  rw [hi1] at HTR
  have htl4 : t.tx.length ≤ 4000 := by omega
  have HTL4 := Lib.hid htl4
  by_cases hJ1 : J < s.size
  · have hne : s[J].toNat ≠ 40 := fun e => by
      rw [decide_eq_true hJ1, Bool.true_and, getD_ba hJ1] at hcall
      have h2 := of_decide_eq_false hcall.symm
      exact h2 (UInt8.toNat_inj.1 e)
    have b40 : (((s[J]'hJ1).toNat : Int) == 40) = false := by simp; omega
    have b40' : ((s[J]'hJ1).toNat == 40) = false := by simp; omega
    have hJ1i : ((J : Nat) : Int) < ((s.size : Nat) : Int) := by omega
    clear hne
    clear hr hn hu1 hcall hrJ hP0 hi1 hR hJt htl4 hcb hnb hstr hstr' hwt ea et eh htx h32 hc0 hul hv hL hp hm
    go_enter Tryz.func159, Tryz.ntmps159
    go_upto_region 1 with (fail)
    obtain ⟨W, hW⟩ : ∃ W, W = w.alloc (.cells #[.int .i64 0, .int .i64 0, .string ⟨#[]⟩, .int .i64 0, .int .i64 0, .string ⟨#[]⟩, .slice none 0 0, .slice none 0 0] 27 (0, 0)) := ⟨_, rfl⟩
    have hkW : Kp g w W := by rw [hW]; exact (kp_refl g w).alloc _
    have HPW := Lib.hid (show PaAt W g s i by rw [hW]; exact HPA.out.alloc _)
    have HMW := Lib.hid (HM.out.kp hkW)
    have BR : Blk W w.heap.size 27 #[.int .i64 0, .int .i64 0, .string ⟨#[]⟩, .int .i64 0, .int .i64 0, .string ⟨#[]⟩, .slice none 0 0, .slice none 0 0] := by rw [hW]; exact Blk.new w _ _
    have hWs : w.heap.size < W.heap.size := BR.lt
    have hszW : W.heap.size = w.heap.size + 1 := by rw [hW]; simp
    have HBR := Lib.hid BR
    rw [← hW]
    clear hW BR
    have d2 : W.cell? ⟨g, 2, none⟩ = some (.string v) := by have h := HPW.out.b.cell 2; rw [show tb (curTx s i) = v from HTV.out] at h; exact h
    have d3 : W.cell? ⟨g, 3, none⟩ = some (.bool false) := by have h := HPW.out.b.cell 3; rw [HTT.out] at h; exact h
    have d1 : W.cell? ⟨g, 1, none⟩ = some (.int .i64 (P0 : Nat)) := by have h := HPW.out.b.cell 1; rw [HP0.out] at h; exact h
    go_upto_region 13 with (first | (go_at_call 80; (with_reducible refine (HDG.out _).mono ?_); rintro e w1 ⟨rfl, rfl⟩) | (go_at_call 78; (with_reducible refine (HLW.out _).mono ?_); rintro e w1 ⟨rfl, rfl⟩) | (go_at_call 100; (with_reducible refine (HRV.out _).mono ?_); rintro e w1 ⟨rfl, rfl⟩))
    go_quiet (fail)
    obtain ⟨W1, hW1⟩ : ∃ W1, W1 = W.drewN nq := ⟨_, rfl⟩
    have hb1 : Below W.heap.size W W1 := by rw [hW1]; exact (Below.refl _ _).drewN nq
    have HPW1 := Lib.hid (HPW.out.below hb1)
    have HKW1 := Lib.hid (hkW.trans (Kp.of hb1))
    have HBR1 := Lib.hid (HBR.out.below hb1 HBR.out.lt)
    have hsz1 : W.heap.size ≤ W1.heap.size := hb1.size
    rw [← hW1]
    clear hW1 hb1 d1 d2 d3
    have d0 : W1.cell? ⟨g, 0, none⟩ = some (.string s) := HPW1.out.b.cell 0
    have HNX := Lib.hid (next_any g s i W1 HPW1.out)
    rw [HI1.out] at HNX
    go_wp2_with (go_at_call 30; (with_reducible refine HNX.out.mono ?_); rintro e w5 ⟨rfl, hp5, hk5⟩; have HP5 := Lib.hid hp5; have HK5 := Lib.hid (HKW1.out.trans hk5); have B5 := HBR1.out.kp hk5 (by omega); have rc0 : w5.cell? ⟨w.heap.size, 0, none⟩ = some (.int .i64 0) := B5.cell 0; have rz0 : w5.frozen? ⟨w.heap.size, 0, none⟩ = false := B5.frozen 0; have rc1 : w5.cell? ⟨w.heap.size, 1, none⟩ = some (.int .i64 0) := B5.cell 1; have rz1 : w5.frozen? ⟨w.heap.size, 1, none⟩ = false := B5.frozen 1; have rc2 : w5.cell? ⟨w.heap.size, 2, none⟩ = some (.string ⟨#[]⟩) := B5.cell 2; have rz2 : w5.frozen? ⟨w.heap.size, 2, none⟩ = false := B5.frozen 2; have rc3 : w5.cell? ⟨w.heap.size, 3, none⟩ = some (.int .i64 0) := B5.cell 3; have rz3 : w5.frozen? ⟨w.heap.size, 3, none⟩ = false := B5.frozen 3; have rc4 : w5.cell? ⟨w.heap.size, 4, none⟩ = some (.int .i64 0) := B5.cell 4; have rz4 : w5.frozen? ⟨w.heap.size, 4, none⟩ = false := B5.frozen 4; have rc5 : w5.cell? ⟨w.heap.size, 5, none⟩ = some (.string ⟨#[]⟩) := B5.cell 5; have rz5 : w5.frozen? ⟨w.heap.size, 5, none⟩ = false := B5.frozen 5; have rc6 : w5.cell? ⟨w.heap.size, 6, none⟩ = some (.slice none 0 0) := B5.cell 6; have rz6 : w5.frozen? ⟨w.heap.size, 6, none⟩ = false := B5.frozen 6; have rc7 : w5.cell? ⟨w.heap.size, 7, none⟩ = some (.slice none 0 0) := B5.cell 7; have rz7 : w5.frozen? ⟨w.heap.size, 7, none⟩ = false := B5.frozen 7)
    refine bodyPost_ret (v := .agg #[.int .i64 2, .int .i64 0, .string v, .int .i64 0, .int .i64 0, .string ⟨#[]⟩, .slice none 0 0, .slice none 0 0]) (by simp [results, Tryz.results159, go_sem, rc0, rc1, rc2, rc3, rc4, rc5, rc6, rc7]) rfl ?_
    have hv := HV.out
    subst hv
    rw [HPZ.out, HTR.out]
    exact ret8 (L := W.heap.size) (x := nameE 2 0 t.tx []) (A := none) (c := 0) (A' := none) (c' := 0) (nameE_inP (B := W.heap.size) (css := []) 2 0 t.tx (by have := HTL4.out; unfold maxLen; omega) ⟨rfl, fun j h => absurd h (by simp)⟩ (fun k hk => hk) ⟨rfl, .inl ⟨rfl, rfl⟩⟩ (Nat.zero_le _)) hWs hlt HP5.out HK5.out
  · have hJ1i : ¬ ((J : Nat) : Int) < ((s.size : Nat) : Int) := by omega
    clear hr hn hu1 hcall hrJ hP0 hi1 hR hJt htl4 hcb hnb hstr hstr' hwt ea et eh htx h32 hc0 hul hv hL hp hm
    go_enter Tryz.func159, Tryz.ntmps159
    go_upto_region 1 with (fail)
    obtain ⟨W, hW⟩ : ∃ W, W = w.alloc (.cells #[.int .i64 0, .int .i64 0, .string ⟨#[]⟩, .int .i64 0, .int .i64 0, .string ⟨#[]⟩, .slice none 0 0, .slice none 0 0] 27 (0, 0)) := ⟨_, rfl⟩
    have hkW : Kp g w W := by rw [hW]; exact (kp_refl g w).alloc _
    have HPW := Lib.hid (show PaAt W g s i by rw [hW]; exact HPA.out.alloc _)
    have HMW := Lib.hid (HM.out.kp hkW)
    have BR : Blk W w.heap.size 27 #[.int .i64 0, .int .i64 0, .string ⟨#[]⟩, .int .i64 0, .int .i64 0, .string ⟨#[]⟩, .slice none 0 0, .slice none 0 0] := by rw [hW]; exact Blk.new w _ _
    have hWs : w.heap.size < W.heap.size := BR.lt
    have hszW : W.heap.size = w.heap.size + 1 := by rw [hW]; simp
    have HBR := Lib.hid BR
    rw [← hW]
    clear hW BR
    have d2 : W.cell? ⟨g, 2, none⟩ = some (.string v) := by have h := HPW.out.b.cell 2; rw [show tb (curTx s i) = v from HTV.out] at h; exact h
    have d3 : W.cell? ⟨g, 3, none⟩ = some (.bool false) := by have h := HPW.out.b.cell 3; rw [HTT.out] at h; exact h
    have d1 : W.cell? ⟨g, 1, none⟩ = some (.int .i64 (P0 : Nat)) := by have h := HPW.out.b.cell 1; rw [HP0.out] at h; exact h
    go_upto_region 13 with (first | (go_at_call 80; (with_reducible refine (HDG.out _).mono ?_); rintro e w1 ⟨rfl, rfl⟩) | (go_at_call 78; (with_reducible refine (HLW.out _).mono ?_); rintro e w1 ⟨rfl, rfl⟩) | (go_at_call 100; (with_reducible refine (HRV.out _).mono ?_); rintro e w1 ⟨rfl, rfl⟩))
    go_quiet (fail)
    obtain ⟨W1, hW1⟩ : ∃ W1, W1 = W.drewN nq := ⟨_, rfl⟩
    have hb1 : Below W.heap.size W W1 := by rw [hW1]; exact (Below.refl _ _).drewN nq
    have HPW1 := Lib.hid (HPW.out.below hb1)
    have HKW1 := Lib.hid (hkW.trans (Kp.of hb1))
    have HBR1 := Lib.hid (HBR.out.below hb1 HBR.out.lt)
    have hsz1 : W.heap.size ≤ W1.heap.size := hb1.size
    rw [← hW1]
    clear hW1 hb1 d1 d2 d3
    have d0 : W1.cell? ⟨g, 0, none⟩ = some (.string s) := HPW1.out.b.cell 0
    have HNX := Lib.hid (next_any g s i W1 HPW1.out)
    rw [HI1.out] at HNX
    go_wp2_with (go_at_call 30; (with_reducible refine HNX.out.mono ?_); rintro e w5 ⟨rfl, hp5, hk5⟩; have HP5 := Lib.hid hp5; have HK5 := Lib.hid (HKW1.out.trans hk5); have B5 := HBR1.out.kp hk5 (by omega); have rc0 : w5.cell? ⟨w.heap.size, 0, none⟩ = some (.int .i64 0) := B5.cell 0; have rz0 : w5.frozen? ⟨w.heap.size, 0, none⟩ = false := B5.frozen 0; have rc1 : w5.cell? ⟨w.heap.size, 1, none⟩ = some (.int .i64 0) := B5.cell 1; have rz1 : w5.frozen? ⟨w.heap.size, 1, none⟩ = false := B5.frozen 1; have rc2 : w5.cell? ⟨w.heap.size, 2, none⟩ = some (.string ⟨#[]⟩) := B5.cell 2; have rz2 : w5.frozen? ⟨w.heap.size, 2, none⟩ = false := B5.frozen 2; have rc3 : w5.cell? ⟨w.heap.size, 3, none⟩ = some (.int .i64 0) := B5.cell 3; have rz3 : w5.frozen? ⟨w.heap.size, 3, none⟩ = false := B5.frozen 3; have rc4 : w5.cell? ⟨w.heap.size, 4, none⟩ = some (.int .i64 0) := B5.cell 4; have rz4 : w5.frozen? ⟨w.heap.size, 4, none⟩ = false := B5.frozen 4; have rc5 : w5.cell? ⟨w.heap.size, 5, none⟩ = some (.string ⟨#[]⟩) := B5.cell 5; have rz5 : w5.frozen? ⟨w.heap.size, 5, none⟩ = false := B5.frozen 5; have rc6 : w5.cell? ⟨w.heap.size, 6, none⟩ = some (.slice none 0 0) := B5.cell 6; have rz6 : w5.frozen? ⟨w.heap.size, 6, none⟩ = false := B5.frozen 6; have rc7 : w5.cell? ⟨w.heap.size, 7, none⟩ = some (.slice none 0 0) := B5.cell 7; have rz7 : w5.frozen? ⟨w.heap.size, 7, none⟩ = false := B5.frozen 7)
    refine bodyPost_ret (v := .agg #[.int .i64 2, .int .i64 0, .string v, .int .i64 0, .int .i64 0, .string ⟨#[]⟩, .slice none 0 0, .slice none 0 0]) (by simp [results, Tryz.results159, go_sem, rc0, rc1, rc2, rc3, rc4, rc5, rc6, rc7]) rfl ?_
    have hv := HV.out
    subst hv
    rw [HPZ.out, HTR.out]
    exact ret8 (L := W.heap.size) (x := nameE 2 0 t.tx []) (A := none) (c := 0) (A' := none) (c' := 0) (nameE_inP (B := W.heap.size) (css := []) 2 0 t.tx (by have := HTL4.out; unfold maxLen; omega) ⟨rfl, fun j h => absurd h (by simp)⟩ (fun k hk => hk) ⟨rfl, .inl ⟨rfl, rfl⟩⟩ (Nat.zero_le _)) hWs hlt HP5.out HK5.out
set_option maxHeartbeats 8000000 in
set_option maxRecDepth 100000 in
theorem primary_none (g : Nat) (s : ByteArray) (i : Nat) (w : World) (hp : PaAt w g s i) (hm : TM w g) (t : Tok) (r : List Tok) (hL : wordsOf s.data.toList i = t :: r) (ht : t.touch = false) (hc : constB t.tx = false) (hp40 : t.tx ≠ [40]) (hn : nameB t.tx = true) (hd : calledB t r = true) (ho : overOf t.tx = 0) (hq : opOf t.tx = 0) (hx : t.tx ≠ rowW) :
    Calls Tryz.prog 159 #[.pointer (some ⟨g, 0, none⟩)] w fun e w' => PRet w g s (Pz s.data.toList.length .primary [] (t :: r)) e w' := by
  have HPA := Lib.hid hp
  have HM := Lib.hid hm
  have hlt := hp.b.lt
  have hs4 := hp.s
  have hwt := word_tok hL
  obtain ⟨ea, et, eh⟩ := cur_of hwt.1
  obtain ⟨tl, htx, h32⟩ := tok_head hwt.1
  obtain ⟨c0, hc0⟩ : ∃ c, s.data.toList.getD t.at_ 0 = c := ⟨_, rfl⟩
  rw [hc0] at htx
  have hul := tok_in hwt.1
  rw [data_len] at hul
  have HTR := Lib.hid (show r = wordsOf s.data.toList (curAt s i + (curTx s i).length) by rw [ea, et]; exact hwt.2)
  have HTA := Lib.hid (show t.at_ = curAt s i from ea.symm)
  have HTK := Lib.hid hwt.1
  have HLL := Lib.hid hL
  obtain ⟨v, hv⟩ : ∃ v, tb t.tx = v := ⟨_, rfl⟩
  have HV := Lib.hid hv
  have HTV := Lib.hid (show tb (curTx s i) = v by rw [et]; exact hv)
  have HTT := Lib.hid eh
  have hu0 : 0 < v.size := by rw [← hv, tb_size, htx]; simp
  have hu1 : v[0] = c0 := by
    subst hv
    have h1 : (tb t.tx).data.toList[0]? = some c0 := by rw [tb_data, htx]; rfl
    have h2 : (tb t.tx).data.toList[0]? = some (tb t.tx)[0] := by
      rw [List.getElem?_eq_getElem (by rw [data_len]; exact hu0)]; rfl
    rw [h2] at h1
    injection h1
  have hem : v.toList.isEmpty = false := by
    cases h : v.toList.isEmpty with
    | false => rfl
    | true =>
      have h1 : v.toList = [] := List.isEmpty_iff.1 h
      have h2 : (v.toList == (⟨#[]⟩ : ByteArray).toList) = true := by rw [h1]; simp
      have h3 : (v.toList == (⟨#[]⟩ : ByteArray).toList) = false := strEq_false (fun e => by rw [e] at hu0; exact absurd hu0 (by decide))
      rw [h3] at h2; cases h2
  have HDG := Lib.hid (show ∀ w', Calls Tryz.prog 80 #[.int .u8 (v[0].toNat : Nat)] w' fun e w'' => e = .returned (.bool (digB c0)) ∧ w' = w'' from fun w' => by rw [hu1]; exact isDigit_any c0 w')
  have HLW := Lib.hid (show ∀ w', Calls Tryz.prog 78 #[.int .u8 (v[0].toNat : Nat)] w' fun e w'' => e = .returned (.bool (lowB c0)) ∧ w' = w'' from fun w' => by rw [hu1]; exact isLower_any c0 w')
  have HRV := Lib.hid (show ∀ w', Calls Tryz.prog 100 #[.string v] w' fun e w'' => e = .returned (.bool (reservedL.contains t.tx)) ∧ w' = w'' from fun w' => by
    have h1 := isReserved_any v w'
    rwa [show v.data.toList = t.tx from by rw [← hv, tb_data]] at h1)
  have HW0 := Lib.hid (fun W (hp : PaAt W g s i) => wrong_any g s i W hp)
  have hcb : constB t.tx = ((digB c0 || decide (c0 = 64) || decide (c0 = 35) || decide (c0 = 39) || decide (c0 = 123)) || decide (t.tx = trueT) || decide (t.tx = falseT)) := by
    unfold constB
    congr 1
    congr 1
    rw [htx]
  have hnb : nameB t.tx = (lowB c0 && !reservedL.contains t.tx) := by
    unfold nameB
    congr 1
    rw [htx]
  have hstr : ∀ l : List UInt8, t.tx = l → (v.toList == (tb l).toList) = true := fun l h => strEq_true (by rw [← hv, h])
  have hstr' : ∀ l : List UInt8, t.tx ≠ l → (v.toList == (tb l).toList) = false := fun l h => strEq_false (fun e => h (tb_inj (by rw [hv, e])))
  have h40 : c0 ≠ 40 := fun e => hp40 (tok_paren hwt.1 (w := tl) (by rw [htx, e]))
  rw [ht] at HTT
  have HPZ := Lib.hid (prim_none (n := s.data.toList.length) (r := r) ht hc hp40 hn hd ho hq hx)
  obtain ⟨R, hR⟩ : ∃ R, Pz s.data.toList.length .primary [] (t :: r) = R := ⟨_, rfl⟩
  rw [hR] at HPZ ⊢
  rw [hcb] at hc
  simp only [Bool.or_eq_false_iff, decide_eq_false_iff_not] at hc
  obtain ⟨⟨⟨⟨⟨⟨h0, h64⟩, h35⟩, h39⟩, h123⟩, ht1⟩, hf1⟩ := hc
  rw [h0] at HDG
  have q64 : ((v[0].toNat : Int) == 64) = false := by
    have h1 : v[0].toNat ≠ 64 := fun e => h64 (by rw [← hu1]; exact UInt8.toNat_inj.1 e)
    simp; omega
  have p64 : (v[0].toNat == 64) = false := by
    have h1 : v[0].toNat ≠ 64 := fun e => h64 (by rw [← hu1]; exact UInt8.toNat_inj.1 e)
    simp; omega
  have q35 : ((v[0].toNat : Int) == 35) = false := by
    have h1 : v[0].toNat ≠ 35 := fun e => h35 (by rw [← hu1]; exact UInt8.toNat_inj.1 e)
    simp; omega
  have p35 : (v[0].toNat == 35) = false := by
    have h1 : v[0].toNat ≠ 35 := fun e => h35 (by rw [← hu1]; exact UInt8.toNat_inj.1 e)
    simp; omega
  have q39 : ((v[0].toNat : Int) == 39) = false := by
    have h1 : v[0].toNat ≠ 39 := fun e => h39 (by rw [← hu1]; exact UInt8.toNat_inj.1 e)
    simp; omega
  have p39 : (v[0].toNat == 39) = false := by
    have h1 : v[0].toNat ≠ 39 := fun e => h39 (by rw [← hu1]; exact UInt8.toNat_inj.1 e)
    simp; omega
  have q123 : ((v[0].toNat : Int) == 123) = false := by
    have h1 : v[0].toNat ≠ 123 := fun e => h123 (by rw [← hu1]; exact UInt8.toNat_inj.1 e)
    simp; omega
  have p123 : (v[0].toNat == 123) = false := by
    have h1 : v[0].toNat ≠ 123 := fun e => h123 (by rw [← hu1]; exact UInt8.toNat_inj.1 e)
    simp; omega
  have st : (v.toList == [116, 114, 117, 101]) = false := by have h := hstr' [116, 114, 117, 101] ht1; simpa [tb] using h
  have sf : (v.toList == [102, 97, 108, 115, 101]) = false := by have h := hstr' [102, 97, 108, 115, 101] hf1; simpa [tb] using h
  have q40 : ((v[0].toNat : Int) == 40) = false := by
    have h1 : v[0].toNat ≠ 40 := fun e => h40 (by rw [← hu1]; exact UInt8.toNat_inj.1 e)
    simp; omega
  have p40 : (v[0].toNat == 40) = false := by
    have h1 : v[0].toNat ≠ 40 := fun e => h40 (by rw [← hu1]; exact UInt8.toNat_inj.1 e)
    simp; omega
  rw [hnb, Bool.and_eq_true] at hn
  rw [hn.1] at HLW
  have hr : reservedL.contains t.tx = false := by simpa using hn.2
  rw [hr] at HRV
  obtain ⟨P0, hP0⟩ : ∃ P0, t.at_ = P0 := ⟨_, rfl⟩
  obtain ⟨J, hJ⟩ : ∃ J, P0 + v.size = J := ⟨_, rfl⟩
  have hJt : J = t.at_ + t.tx.length := by rw [← hJ, ← hP0, ← hv, tb_size]
  have hcall := called_iff (s := s.data.toList) (t := t) hJt
  have hrJ : r = wordsOf s.data.toList J := by rw [hJt]; exact hwt.2
  rw [← hrJ, hd, data_len] at hcall
  have hJs : J ≤ s.size := by rw [hJt]; omega
  have HP0 := Lib.hid (show curAt s i = P0 by rw [ea, hP0])
  have hJi : ((P0 : Nat) : Int) + (v.size : Nat) = (J : Nat) := by omega
  have hJw : IntKind.i64.wrap (((P0 : Nat) : Int) + (v.size : Nat)) = (J : Nat) := by rw [hJi]; exact IntWalk.i64_in _ (by omega)
  obtain ⟨i1, hi1⟩ : ∃ i1, curAt s i + (curTx s i).length = i1 := ⟨_, rfl⟩
  have HI1 := Lib.hid hi1
  rw [hi1] at HTR
  have htl4 : t.tx.length ≤ 4000 := by omega
  have HTL4 := Lib.hid htl4
  have hJ1 : J < s.size := by
    have h1 : decide (J < s.size) = true := by
      cases h : decide (J < s.size) with
      | true => rfl
      | false => rw [h] at hcall; cases hcall
    exact of_decide_eq_true h1
  have h40J : (s[J]'hJ1).toNat = 40 := by
    rw [decide_eq_true hJ1, Bool.true_and, getD_ba hJ1] at hcall
    have h2 := of_decide_eq_true hcall.symm
    rw [h2]; rfl
  have b40 : (((s[J]'hJ1).toNat : Int) == 40) = true := by simp; omega
  have b40' : ((s[J]'hJ1).toNat == 40) = true := by simp; omega
  have hJ1i : ((J : Nat) : Int) < ((s.size : Nat) : Int) := by omega
  clear h40J
  have HCN := Lib.hid (fun W => hv ▸ call_none g W t.tx ho hq hx)
  clear hr hn hu1 hcall hrJ hP0 hi1 hR hJt htl4 hcb hnb hstr hstr' hwt ea et eh htx h32 hc0 hul hv hL hp hm
  go_enter Tryz.func159, Tryz.ntmps159
  go_upto_region 1 with (fail)
  obtain ⟨W, hW⟩ : ∃ W, W = w.alloc (.cells #[.int .i64 0, .int .i64 0, .string ⟨#[]⟩, .int .i64 0, .int .i64 0, .string ⟨#[]⟩, .slice none 0 0, .slice none 0 0] 27 (0, 0)) := ⟨_, rfl⟩
  have hkW : Kp g w W := by rw [hW]; exact (kp_refl g w).alloc _
  have HPW := Lib.hid (show PaAt W g s i by rw [hW]; exact HPA.out.alloc _)
  have HMW := Lib.hid (HM.out.kp hkW)
  have BR : Blk W w.heap.size 27 #[.int .i64 0, .int .i64 0, .string ⟨#[]⟩, .int .i64 0, .int .i64 0, .string ⟨#[]⟩, .slice none 0 0, .slice none 0 0] := by rw [hW]; exact Blk.new w _ _
  have hWs : w.heap.size < W.heap.size := BR.lt
  have hszW : W.heap.size = w.heap.size + 1 := by rw [hW]; simp
  have HBR := Lib.hid BR
  rw [← hW]
  clear hW BR
  have d2 : W.cell? ⟨g, 2, none⟩ = some (.string v) := by have h := HPW.out.b.cell 2; rw [show tb (curTx s i) = v from HTV.out] at h; exact h
  have d3 : W.cell? ⟨g, 3, none⟩ = some (.bool false) := by have h := HPW.out.b.cell 3; rw [HTT.out] at h; exact h
  have d1 : W.cell? ⟨g, 1, none⟩ = some (.int .i64 (P0 : Nat)) := by have h := HPW.out.b.cell 1; rw [HP0.out] at h; exact h
  go_upto_region 13 with (first | (go_at_call 80; (with_reducible refine (HDG.out _).mono ?_); rintro e w1 ⟨rfl, rfl⟩) | (go_at_call 78; (with_reducible refine (HLW.out _).mono ?_); rintro e w1 ⟨rfl, rfl⟩) | (go_at_call 100; (with_reducible refine (HRV.out _).mono ?_); rintro e w1 ⟨rfl, rfl⟩))
  go_quiet (fail)
  obtain ⟨W1, hW1⟩ : ∃ W1, W1 = W.drewN nq := ⟨_, rfl⟩
  have hb1 : Below W.heap.size W W1 := by rw [hW1]; exact (Below.refl _ _).drewN nq
  have HPW1 := Lib.hid (HPW.out.below hb1)
  have HKW1 := Lib.hid (hkW.trans (Kp.of hb1))
  have HBR1 := Lib.hid (HBR.out.below hb1 HBR.out.lt)
  have hsz1 : W.heap.size ≤ W1.heap.size := hb1.size
  rw [← hW1]
  clear hW1 hb1 d1 d2 d3
  have d0 : W1.cell? ⟨g, 0, none⟩ = some (.string s) := HPW1.out.b.cell 0
  go_wp2_with fail
  refine (HCN.out W1).mono ?_
  rintro e w2 ⟨rfl, hb2⟩
  go_upto_region 16 with (fail)
  obtain ⟨W3, hW3⟩ : ∃ W3, W3 = w2.alloc (.cells #[.int .i64 0, .int .i64 0, .string ⟨#[]⟩, .int .i64 0, .int .i64 0, .string ⟨#[]⟩, .slice none 0 0, .slice none 0 0] 27 (0, 0)) := ⟨_, rfl⟩
  have hb3 : Below W1.heap.size W1 W3 := by rw [hW3]; exact hb2.alloc hb2.size _
  have HPW3 := Lib.hid (HPW1.out.below hb3)
  have HKW3 := Lib.hid (HKW1.out.trans (Kp.of hb3))
  have HBR3 := Lib.hid (HBR1.out.below hb3 HBR1.out.lt)
  rw [← hW3]
  clear hW3 hb2 hb3
  have HNX := Lib.hid (next_any g s i W3 HPW3.out)
  rw [HI1.out] at HNX
  go_wp2_with (go_at_call 30; (with_reducible refine HNX.out.mono ?_); rintro e w5 ⟨rfl, hp5, hk5⟩; have HP5 := Lib.hid hp5; have HK5 := Lib.hid (HKW3.out.trans hk5); have B5 := HBR3.out.kp hk5 (by omega); have rc0 : w5.cell? ⟨w.heap.size, 0, none⟩ = some (.int .i64 0) := B5.cell 0; have rz0 : w5.frozen? ⟨w.heap.size, 0, none⟩ = false := B5.frozen 0; have rc1 : w5.cell? ⟨w.heap.size, 1, none⟩ = some (.int .i64 0) := B5.cell 1; have rz1 : w5.frozen? ⟨w.heap.size, 1, none⟩ = false := B5.frozen 1; have rc2 : w5.cell? ⟨w.heap.size, 2, none⟩ = some (.string ⟨#[]⟩) := B5.cell 2; have rz2 : w5.frozen? ⟨w.heap.size, 2, none⟩ = false := B5.frozen 2; have rc3 : w5.cell? ⟨w.heap.size, 3, none⟩ = some (.int .i64 0) := B5.cell 3; have rz3 : w5.frozen? ⟨w.heap.size, 3, none⟩ = false := B5.frozen 3; have rc4 : w5.cell? ⟨w.heap.size, 4, none⟩ = some (.int .i64 0) := B5.cell 4; have rz4 : w5.frozen? ⟨w.heap.size, 4, none⟩ = false := B5.frozen 4; have rc5 : w5.cell? ⟨w.heap.size, 5, none⟩ = some (.string ⟨#[]⟩) := B5.cell 5; have rz5 : w5.frozen? ⟨w.heap.size, 5, none⟩ = false := B5.frozen 5; have rc6 : w5.cell? ⟨w.heap.size, 6, none⟩ = some (.slice none 0 0) := B5.cell 6; have rz6 : w5.frozen? ⟨w.heap.size, 6, none⟩ = false := B5.frozen 6; have rc7 : w5.cell? ⟨w.heap.size, 7, none⟩ = some (.slice none 0 0) := B5.cell 7; have rz7 : w5.frozen? ⟨w.heap.size, 7, none⟩ = false := B5.frozen 7)
  refine bodyPost_ret (v := .agg #[.int .i64 2, .int .i64 0, .string v, .int .i64 0, .int .i64 0, .string ⟨#[]⟩, .slice none 0 0, .slice none 0 0]) (by simp [results, Tryz.results159, go_sem, rc0, rc1, rc2, rc3, rc4, rc5, rc6, rc7]) rfl ?_
  have hv := HV.out
  subst hv
  rw [HPZ.out, HTR.out]
  exact ret8 (L := W.heap.size) (x := nameE 2 0 t.tx []) (A := none) (c := 0) (A' := none) (c' := 0) (nameE_inP (B := W.heap.size) (css := []) 2 0 t.tx (by have := HTL4.out; unfold maxLen; omega) ⟨rfl, fun j h => absurd h (by simp)⟩ (fun k hk => hk) ⟨rfl, .inl ⟨rfl, rfl⟩⟩ (Nat.zero_le _)) hWs hlt HP5.out HK5.out
set_option maxHeartbeats 8000000 in
set_option maxRecDepth 100000 in
theorem primary_call (g : Nat) (s : ByteArray) (i : Nat) (w : World) (hp : PaAt w g s i) (hm : TM w g) (t : Tok) (r : List Tok) (hL : wordsOf s.data.toList i = t :: r) (ht : t.touch = false) (hc : constB t.tx = false) (hp40 : t.tx ≠ [40]) (hn : nameB t.tx = true) (hd : calledB t r = true) (hy : ¬ (overOf t.tx = 0 ∧ opOf t.tx = 0 ∧ t.tx ≠ rowW)) (hP : ∀ L', L'.length < r.length → PSpec 31 .or s L') :
    Calls Tryz.prog 159 #[.pointer (some ⟨g, 0, none⟩)] w fun e w' => PRet w g s (Pz s.data.toList.length .primary [] (t :: r)) e w' := by
  have HPA := Lib.hid hp
  have HM := Lib.hid hm
  have hlt := hp.b.lt
  have hs4 := hp.s
  have hwt := word_tok hL
  obtain ⟨ea, et, eh⟩ := cur_of hwt.1
  obtain ⟨tl, htx, h32⟩ := tok_head hwt.1
  obtain ⟨c0, hc0⟩ : ∃ c, s.data.toList.getD t.at_ 0 = c := ⟨_, rfl⟩
  rw [hc0] at htx
  have hul := tok_in hwt.1
  rw [data_len] at hul
  have HTR := Lib.hid (show r = wordsOf s.data.toList (curAt s i + (curTx s i).length) by rw [ea, et]; exact hwt.2)
  have HTA := Lib.hid (show t.at_ = curAt s i from ea.symm)
  have HTK := Lib.hid hwt.1
  have HLL := Lib.hid hL
  obtain ⟨v, hv⟩ : ∃ v, tb t.tx = v := ⟨_, rfl⟩
  have HV := Lib.hid hv
  have HTV := Lib.hid (show tb (curTx s i) = v by rw [et]; exact hv)
  have HTT := Lib.hid eh
  have hu0 : 0 < v.size := by rw [← hv, tb_size, htx]; simp
  have hu1 : v[0] = c0 := by
    subst hv
    have h1 : (tb t.tx).data.toList[0]? = some c0 := by rw [tb_data, htx]; rfl
    have h2 : (tb t.tx).data.toList[0]? = some (tb t.tx)[0] := by
      rw [List.getElem?_eq_getElem (by rw [data_len]; exact hu0)]; rfl
    rw [h2] at h1
    injection h1
  have hem : v.toList.isEmpty = false := by
    cases h : v.toList.isEmpty with
    | false => rfl
    | true =>
      have h1 : v.toList = [] := List.isEmpty_iff.1 h
      have h2 : (v.toList == (⟨#[]⟩ : ByteArray).toList) = true := by rw [h1]; simp
      have h3 : (v.toList == (⟨#[]⟩ : ByteArray).toList) = false := strEq_false (fun e => by rw [e] at hu0; exact absurd hu0 (by decide))
      rw [h3] at h2; cases h2
  have HDG := Lib.hid (show ∀ w', Calls Tryz.prog 80 #[.int .u8 (v[0].toNat : Nat)] w' fun e w'' => e = .returned (.bool (digB c0)) ∧ w' = w'' from fun w' => by rw [hu1]; exact isDigit_any c0 w')
  have HLW := Lib.hid (show ∀ w', Calls Tryz.prog 78 #[.int .u8 (v[0].toNat : Nat)] w' fun e w'' => e = .returned (.bool (lowB c0)) ∧ w' = w'' from fun w' => by rw [hu1]; exact isLower_any c0 w')
  have HRV := Lib.hid (show ∀ w', Calls Tryz.prog 100 #[.string v] w' fun e w'' => e = .returned (.bool (reservedL.contains t.tx)) ∧ w' = w'' from fun w' => by
    have h1 := isReserved_any v w'
    rwa [show v.data.toList = t.tx from by rw [← hv, tb_data]] at h1)
  have HW0 := Lib.hid (fun W (hp : PaAt W g s i) => wrong_any g s i W hp)
  have hcb : constB t.tx = ((digB c0 || decide (c0 = 64) || decide (c0 = 35) || decide (c0 = 39) || decide (c0 = 123)) || decide (t.tx = trueT) || decide (t.tx = falseT)) := by
    unfold constB
    congr 1
    congr 1
    rw [htx]
  have hnb : nameB t.tx = (lowB c0 && !reservedL.contains t.tx) := by
    unfold nameB
    congr 1
    rw [htx]
  have hstr : ∀ l : List UInt8, t.tx = l → (v.toList == (tb l).toList) = true := fun l h => strEq_true (by rw [← hv, h])
  have hstr' : ∀ l : List UInt8, t.tx ≠ l → (v.toList == (tb l).toList) = false := fun l h => strEq_false (fun e => h (tb_inj (by rw [hv, e])))
  have h40 : c0 ≠ 40 := fun e => hp40 (tok_paren hwt.1 (w := tl) (by rw [htx, e]))
  rw [ht] at HTT
  have HPZ := Lib.hid (prim_call (n := s.data.toList.length) (r := r) ht hc hp40 hn hd hy)
  obtain ⟨R, hR⟩ : ∃ R, Pz s.data.toList.length .primary [] (t :: r) = R := ⟨_, rfl⟩
  rw [hR] at HPZ ⊢
  rw [hcb] at hc
  simp only [Bool.or_eq_false_iff, decide_eq_false_iff_not] at hc
  obtain ⟨⟨⟨⟨⟨⟨h0, h64⟩, h35⟩, h39⟩, h123⟩, ht1⟩, hf1⟩ := hc
  rw [h0] at HDG
  have q64 : ((v[0].toNat : Int) == 64) = false := by
    have h1 : v[0].toNat ≠ 64 := fun e => h64 (by rw [← hu1]; exact UInt8.toNat_inj.1 e)
    simp; omega
  have p64 : (v[0].toNat == 64) = false := by
    have h1 : v[0].toNat ≠ 64 := fun e => h64 (by rw [← hu1]; exact UInt8.toNat_inj.1 e)
    simp; omega
  have q35 : ((v[0].toNat : Int) == 35) = false := by
    have h1 : v[0].toNat ≠ 35 := fun e => h35 (by rw [← hu1]; exact UInt8.toNat_inj.1 e)
    simp; omega
  have p35 : (v[0].toNat == 35) = false := by
    have h1 : v[0].toNat ≠ 35 := fun e => h35 (by rw [← hu1]; exact UInt8.toNat_inj.1 e)
    simp; omega
  have q39 : ((v[0].toNat : Int) == 39) = false := by
    have h1 : v[0].toNat ≠ 39 := fun e => h39 (by rw [← hu1]; exact UInt8.toNat_inj.1 e)
    simp; omega
  have p39 : (v[0].toNat == 39) = false := by
    have h1 : v[0].toNat ≠ 39 := fun e => h39 (by rw [← hu1]; exact UInt8.toNat_inj.1 e)
    simp; omega
  have q123 : ((v[0].toNat : Int) == 123) = false := by
    have h1 : v[0].toNat ≠ 123 := fun e => h123 (by rw [← hu1]; exact UInt8.toNat_inj.1 e)
    simp; omega
  have p123 : (v[0].toNat == 123) = false := by
    have h1 : v[0].toNat ≠ 123 := fun e => h123 (by rw [← hu1]; exact UInt8.toNat_inj.1 e)
    simp; omega
  have st : (v.toList == [116, 114, 117, 101]) = false := by have h := hstr' [116, 114, 117, 101] ht1; simpa [tb] using h
  have sf : (v.toList == [102, 97, 108, 115, 101]) = false := by have h := hstr' [102, 97, 108, 115, 101] hf1; simpa [tb] using h
  have q40 : ((v[0].toNat : Int) == 40) = false := by
    have h1 : v[0].toNat ≠ 40 := fun e => h40 (by rw [← hu1]; exact UInt8.toNat_inj.1 e)
    simp; omega
  have p40 : (v[0].toNat == 40) = false := by
    have h1 : v[0].toNat ≠ 40 := fun e => h40 (by rw [← hu1]; exact UInt8.toNat_inj.1 e)
    simp; omega
  rw [hnb, Bool.and_eq_true] at hn
  rw [hn.1] at HLW
  have hr : reservedL.contains t.tx = false := by simpa using hn.2
  rw [hr] at HRV
  obtain ⟨P0, hP0⟩ : ∃ P0, t.at_ = P0 := ⟨_, rfl⟩
  obtain ⟨J, hJ⟩ : ∃ J, P0 + v.size = J := ⟨_, rfl⟩
  have hJt : J = t.at_ + t.tx.length := by rw [← hJ, ← hP0, ← hv, tb_size]
  have hcall := called_iff (s := s.data.toList) (t := t) hJt
  have hrJ : r = wordsOf s.data.toList J := by rw [hJt]; exact hwt.2
  rw [← hrJ, hd, data_len] at hcall
  have hJs : J ≤ s.size := by rw [hJt]; omega
  have HP0 := Lib.hid (show curAt s i = P0 by rw [ea, hP0])
  have hJi : ((P0 : Nat) : Int) + (v.size : Nat) = (J : Nat) := by omega
  have hJw : IntKind.i64.wrap (((P0 : Nat) : Int) + (v.size : Nat)) = (J : Nat) := by rw [hJi]; exact IntWalk.i64_in _ (by omega)
  obtain ⟨i1, hi1⟩ : ∃ i1, curAt s i + (curTx s i).length = i1 := ⟨_, rfl⟩
  have HI1 := Lib.hid hi1
  rw [hi1] at HTR
  have htl4 : t.tx.length ≤ 4000 := by omega
  have HTL4 := Lib.hid htl4
  have hJ1 : J < s.size := by
    have h1 : decide (J < s.size) = true := by
      cases h : decide (J < s.size) with
      | true => rfl
      | false => rw [h] at hcall; cases hcall
    exact of_decide_eq_true h1
  have h40J : (s[J]'hJ1).toNat = 40 := by
    rw [decide_eq_true hJ1, Bool.true_and, getD_ba hJ1] at hcall
    have h2 := of_decide_eq_true hcall.symm
    rw [h2]; rfl
  have b40 : (((s[J]'hJ1).toNat : Int) == 40) = true := by simp; omega
  have b40' : ((s[J]'hJ1).toNat == 40) = true := by simp; omega
  have hJ1i : ((J : Nat) : Int) < ((s.size : Nat) : Int) := by omega
  clear h40J
  obtain ⟨u, r', hur, hu40⟩ : ∃ u r', r = u :: r' ∧ u.tx = [40] := by
    cases hr' : r with
    | nil => rw [hr'] at hd; cases hd
    | cons u r' =>
      rw [hr'] at hd
      have h1 : (decide (u.tx = [40]) && decide (u.at_ = t.at_ + t.tx.length)) = true := hd
      rw [Bool.and_eq_true, decide_eq_true_iff] at h1
      exact ⟨u, r', rfl, h1.1⟩
  have HCY := Lib.hid (fun W (hpW : PaAt W g s i) (hmW : TM W g) => hv ▸ call_yes g s i W hpW hmW t u r' (by rw [hL, hur]) hu40 hy (fun L' h => hP L' (by rw [hur]; simp; omega)))
  have HRT := Lib.hid (show r.tail = r' by rw [hur]; rfl)
  clear hu40 hy hP hur
  clear hr hn hu1 hcall hrJ hP0 hi1 hR hJt htl4 hcb hnb hstr hstr' hwt ea et eh htx h32 hc0 hul hv hL hp hm
  go_enter Tryz.func159, Tryz.ntmps159
  go_upto_region 1 with (fail)
  obtain ⟨W, hW⟩ : ∃ W, W = w.alloc (.cells #[.int .i64 0, .int .i64 0, .string ⟨#[]⟩, .int .i64 0, .int .i64 0, .string ⟨#[]⟩, .slice none 0 0, .slice none 0 0] 27 (0, 0)) := ⟨_, rfl⟩
  have hkW : Kp g w W := by rw [hW]; exact (kp_refl g w).alloc _
  have HPW := Lib.hid (show PaAt W g s i by rw [hW]; exact HPA.out.alloc _)
  have HMW := Lib.hid (HM.out.kp hkW)
  have BR : Blk W w.heap.size 27 #[.int .i64 0, .int .i64 0, .string ⟨#[]⟩, .int .i64 0, .int .i64 0, .string ⟨#[]⟩, .slice none 0 0, .slice none 0 0] := by rw [hW]; exact Blk.new w _ _
  have hWs : w.heap.size < W.heap.size := BR.lt
  have hszW : W.heap.size = w.heap.size + 1 := by rw [hW]; simp
  have HBR := Lib.hid BR
  rw [← hW]
  clear hW BR
  have d2 : W.cell? ⟨g, 2, none⟩ = some (.string v) := by have h := HPW.out.b.cell 2; rw [show tb (curTx s i) = v from HTV.out] at h; exact h
  have d3 : W.cell? ⟨g, 3, none⟩ = some (.bool false) := by have h := HPW.out.b.cell 3; rw [HTT.out] at h; exact h
  have d1 : W.cell? ⟨g, 1, none⟩ = some (.int .i64 (P0 : Nat)) := by have h := HPW.out.b.cell 1; rw [HP0.out] at h; exact h
  go_upto_region 13 with (first | (go_at_call 80; (with_reducible refine (HDG.out _).mono ?_); rintro e w1 ⟨rfl, rfl⟩) | (go_at_call 78; (with_reducible refine (HLW.out _).mono ?_); rintro e w1 ⟨rfl, rfl⟩) | (go_at_call 100; (with_reducible refine (HRV.out _).mono ?_); rintro e w1 ⟨rfl, rfl⟩))
  go_quiet (fail)
  obtain ⟨W1, hW1⟩ : ∃ W1, W1 = W.drewN nq := ⟨_, rfl⟩
  have hb1 : Below W.heap.size W W1 := by rw [hW1]; exact (Below.refl _ _).drewN nq
  have HPW1 := Lib.hid (HPW.out.below hb1)
  have HKW1 := Lib.hid (hkW.trans (Kp.of hb1))
  have HBR1 := Lib.hid (HBR.out.below hb1 HBR.out.lt)
  have hsz1 : W.heap.size ≤ W1.heap.size := hb1.size
  rw [← hW1]
  clear hW1 hb1 d1 d2 d3
  have d0 : W1.cell? ⟨g, 0, none⟩ = some (.string s) := HPW1.out.b.cell 0
  go_wp2_with fail
  have HMW1 := HM.out.kp HKW1.out
  rw [HRT.out] at HPZ
  obtain ⟨r2, hr2⟩ : ∃ r2, callF s.data.toList.length t.tx r' = r2 := ⟨_, rfl⟩
  have HC := HCY.out W1 HPW1.out HMW1
  rw [hr2] at HC HPZ
  refine HC.mono ?_
  clear HC hr2
  cases r2 with
  | err k =>
    rintro e w2 ⟨rfl, hk2⟩
    have hend : R = .err k := HPZ.out
    go_wp2_with fail
    refine ⟨rfl, ?_⟩
    rw [hend]
    exact ⟨rfl, HKW1.out.trans hk2⟩
  | ok es l1 =>
    rintro e w2 ⟨y, i2, cs2, rfl, rfl, rfl, hx2, hp2, hk2⟩
    have HX2 := Lib.hid hx2
    obtain ⟨hn2, hs2, hl2, ha2, hxx2, hrr2, hii2⟩ := hx2
    rename_i A1 c1 A2 c2 csi2
    clear hxx2 hrr2 hii2 hn2 hs2 hl2 ha2
    have exa2 : (exCells y A1 c1 A2 c2).toArray = #[.int .i64 y.k, .int .i64 y.op, .string y.nm, .int .i64 y.v.k, .int .i64 y.v.n, .string y.v.s, .slice A1 y.v.l.length c1, .slice A2 y.ar.length c2] := rfl
    rw [exa2]
    clear exa2
    have hsz2 : W1.heap.size ≤ w2.heap.size := hk2.size
    have HP2 := Lib.hid hp2
    have HK2 := Lib.hid (HKW1.out.trans hk2)
    have HBR2 := Lib.hid (HBR1.out.kp hk2 (by omega))
    clear hp2 hk2
    go_upto_region 16 with (fail)
    obtain ⟨W3, hW3⟩ : ∃ W3, W3 = w2.alloc (.cells #[.int .i64 y.k, .int .i64 y.op, .string y.nm, .int .i64 y.v.k, .int .i64 y.v.n, .string y.v.s, .slice A1 y.v.l.length c1, .slice A2 y.ar.length c2] 27 (0, 0)) := ⟨_, rfl⟩
    have HPW3 := Lib.hid (show PaAt W3 g s i2 by rw [hW3]; exact HP2.out.alloc _)
    have HKW3 := Lib.hid (show Kp g w W3 by rw [hW3]; exact HK2.out.alloc _)
    have BR3 : Blk W3 w.heap.size 27 #[.int .i64 0, .int .i64 0, .string ⟨#[]⟩, .int .i64 0, .int .i64 0, .string ⟨#[]⟩, .slice none 0 0, .slice none 0 0] := by rw [hW3]; exact HBR2.out.alloc _
    have BY3 : Blk W3 w2.heap.size 27 #[.int .i64 y.k, .int .i64 y.op, .string y.nm, .int .i64 y.v.k, .int .i64 y.v.n, .string y.v.s, .slice A1 y.v.l.length c1, .slice A2 y.ar.length c2] := by rw [hW3]; exact Blk.new w2 _ _
    have HXW3 := Lib.hid (show ExIn W3 (fun b => W.heap.size ≤ b) W3.heap.size y (exCells y A1 c1 A2 c2) by
      rw [hW3]
      exact ((HX2.out.imp (q := fun b => W.heap.size ≤ b) (fun k hk _ => by omega)).keep (Stay.of ((Below.refl _ _).alloc (Nat.le_refl _) _))).up (by simp))
    rw [← hW3]
    clear hW3
    have ec0 : W3.cell? ⟨w2.heap.size, 0, none⟩ = some (.int .i64 y.k) := BY3.cell 0
    have ec1 : W3.cell? ⟨w2.heap.size, 1, none⟩ = some (.int .i64 y.op) := BY3.cell 1
    have ec2 : W3.cell? ⟨w2.heap.size, 2, none⟩ = some (.string y.nm) := BY3.cell 2
    have ec3 : W3.cell? ⟨w2.heap.size, 3, none⟩ = some (.int .i64 y.v.k) := BY3.cell 3
    have ec4 : W3.cell? ⟨w2.heap.size, 4, none⟩ = some (.int .i64 y.v.n) := BY3.cell 4
    have ec5 : W3.cell? ⟨w2.heap.size, 5, none⟩ = some (.string y.v.s) := BY3.cell 5
    have ec6 : W3.cell? ⟨w2.heap.size, 6, none⟩ = some (.slice A1 y.v.l.length c1) := BY3.cell 6
    have ec7 : W3.cell? ⟨w2.heap.size, 7, none⟩ = some (.slice A2 y.ar.length c2) := BY3.cell 7
    have rc0 : W3.cell? ⟨w.heap.size, 0, none⟩ = some (.int .i64 0) := BR3.cell 0
    have rz0 : W3.frozen? ⟨w.heap.size, 0, none⟩ = false := BR3.frozen 0
    have rc1 : W3.cell? ⟨w.heap.size, 1, none⟩ = some (.int .i64 0) := BR3.cell 1
    have rz1 : W3.frozen? ⟨w.heap.size, 1, none⟩ = false := BR3.frozen 1
    have rc2 : W3.cell? ⟨w.heap.size, 2, none⟩ = some (.string ⟨#[]⟩) := BR3.cell 2
    have rz2 : W3.frozen? ⟨w.heap.size, 2, none⟩ = false := BR3.frozen 2
    have rc3 : W3.cell? ⟨w.heap.size, 3, none⟩ = some (.int .i64 0) := BR3.cell 3
    have rz3 : W3.frozen? ⟨w.heap.size, 3, none⟩ = false := BR3.frozen 3
    have rc4 : W3.cell? ⟨w.heap.size, 4, none⟩ = some (.int .i64 0) := BR3.cell 4
    have rz4 : W3.frozen? ⟨w.heap.size, 4, none⟩ = false := BR3.frozen 4
    have rc5 : W3.cell? ⟨w.heap.size, 5, none⟩ = some (.string ⟨#[]⟩) := BR3.cell 5
    have rz5 : W3.frozen? ⟨w.heap.size, 5, none⟩ = false := BR3.frozen 5
    have rc6 : W3.cell? ⟨w.heap.size, 6, none⟩ = some (.slice none 0 0) := BR3.cell 6
    have rz6 : W3.frozen? ⟨w.heap.size, 6, none⟩ = false := BR3.frozen 6
    have rc7 : W3.cell? ⟨w.heap.size, 7, none⟩ = some (.slice none 0 0) := BR3.cell 7
    have rz7 : W3.frozen? ⟨w.heap.size, 7, none⟩ = false := BR3.frozen 7
    go_wp2_with fail
    refine bodyPost_ret (v := .agg #[.int .i64 y.k, .int .i64 y.op, .string y.nm, .int .i64 y.v.k, .int .i64 y.v.n, .string y.v.s, .slice A1 y.v.l.length c1, .slice A2 y.ar.length c2]) (by simp [results, Tryz.results159, go_sem, rc0, rc1, rc2, rc3, rc4, rc5, rc6, rc7]) rfl ?_
    rw [HPZ.out]
    exact ret8 HXW3.out hWs hlt HPW3.out HKW3.out
theorem primary_spec (s : ByteArray) (L : List Tok) (hP : ∀ L', L'.length < L.length → PSpec 31 .or s L') : PSpec 159 .primary s L := by
  intro g i w hp hm hL
  cases L with
  | nil => exact primary_end g s i w hp hL
  | cons t r =>
    by_cases ht : t.touch = true
    · exact primary_touch g s i w hp hm t r hL ht
    have ht := Bool.eq_false_iff.2 ht
    by_cases hc : constB t.tx = true
    · exact primary_const g s i w hp hm t r hL ht hc
    have hc := Bool.eq_false_iff.2 hc
    by_cases h40 : t.tx = [40]
    · exact primary_paren g s i w hp hm t r hL ht h40 (fun L' h => hP L' (by simp; omega))
    by_cases hn : nameB t.tx = true
    · by_cases hd : calledB t r = true
      · by_cases hy : overOf t.tx = 0 ∧ opOf t.tx = 0 ∧ t.tx ≠ rowW
        · exact primary_none g s i w hp hm t r hL ht hc h40 hn hd hy.1 hy.2.1 hy.2.2
        · exact primary_call g s i w hp hm t r hL ht hc h40 hn hd hy (fun L' h => hP L' (by simp; omega))
      · exact primary_plain g s i w hp hm t r hL ht hc h40 hn (Bool.eq_false_iff.2 hd)
    · exact primary_bad g s i w hp hm t r hL ht hc h40 (Bool.eq_false_iff.2 hn)
/-- all methods -/
structure AllP (s : ByteArray) (m : Nat) : Prop where
  or : ∀ L, bndN .or L ≤ m → PSpec 31 .or s L
  and : ∀ L, bndN .and L ≤ m → PSpec 55 .and s L
  not : ∀ L, bndN .not L ≤ m → PSpec 86 .not s L
  sum : ∀ L, bndN .sum L ≤ m → PSpec 112 .sum s L
  product : ∀ L, bndN .product L ≤ m → PSpec 135 .product s L
  minus : ∀ L, bndN .minus L ≤ m → PSpec 151 .minus s L
  primary : ∀ L, bndN .primary L ≤ m → PSpec 159 .primary s L
theorem all_any (s : ByteArray) : ∀ m, AllP s m
  | 0 => ⟨fun L h => by simp [bndN, levN] at h, fun L h => by simp [bndN, levN] at h, fun L h => by simp [bndN, levN] at h, fun L h => by simp [bndN, levN] at h, fun L h => by simp [bndN, levN] at h, fun L h => by simp [bndN, levN] at h, fun L h => by simp [bndN, levN] at h⟩
  | m + 1 => by
    have ih := all_any s m
    refine ⟨fun L h => ?_, fun L h => ?_, fun L h => ?_, fun L h => ?_, fun L h => ?_, fun L h => ?_, fun L h => ?_⟩ <;> simp only [bndN, levN] at h
    · exact or_spec s L (fun L' h' => ih.and L' (by simp only [bndN, levN]; omega))
    · exact and_spec s L (fun L' h' => ih.not L' (by simp only [bndN, levN]; omega))
    · exact not_spec s L (fun L' h' => ih.not L' (by simp only [bndN, levN]; omega)) (fun L' h' => ih.sum L' (by simp only [bndN, levN]; omega))
    · exact sum_spec s L (fun L' h' => ih.product L' (by simp only [bndN, levN]; omega))
    · exact product_spec s L (fun L' h' => ih.minus L' (by simp only [bndN, levN]; omega))
    · exact minus_spec s L (fun L' h' => ih.minus L' (by simp only [bndN, levN]; omega)) (ih.primary L (by simp only [bndN, levN]; omega))
    · exact primary_spec s L (fun L' h' => ih.or L' (by simp only [bndN, levN]; omega))
theorem or_any (s : ByteArray) (L : List Tok) : PSpec 31 .or s L := (all_any s (bndN .or L)).or L (Nat.le_refl _)
end Go.Proofs.YtobanldeicclmaaGreatDoor
