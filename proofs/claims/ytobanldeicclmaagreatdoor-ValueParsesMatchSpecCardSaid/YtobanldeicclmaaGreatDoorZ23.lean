/- Lemmas for the claim: walks and plain laws. -/
import Derived.Test.YtobanldeicclmaaGreatDoorZ22
import Derived.Test.YtobanldeicclmaaGreatDoorZ12
set_option maxHeartbeats 4000000
set_option maxRecDepth 100000
namespace Go.Proofs.YtobanldeicclmaaGreatDoor
open Go.RowKit Vtx
attribute [local go_sem ↓] Go.wp_at_zero Go.wp_at_succ
theorem JG (v : ByteArray) (a : Nat) (w : World) (hv : v.size ≤ 2000000) (ha : a ≤ 2000000) :
  Calls Tryz.prog 163 #[.agg #[.string v, .int .i64 (a : Nat)]] w fun e w' => e = .returned (.int .i64 ((a + v.size : Nat) : Int)) ∧ Below w.heap.size w w' := by
 have HW := qh (show IntKind.i64.wrap (((a : Nat) : Int) + ((v.size : Nat) : Int)) = ((a + v.size : Nat) : Int) by rw [IntWalk.i64_in _ (by omega)]; omega)
 go_enter Tryz.func163, Tryz.ntmps163
 go_wp2
 go_ret
 exact ⟨congrArg (fun x => Ending.returned (Value.int .i64 x)) (by omega), (Below.refl _ w).alloc (Nat.le_refl _) _⟩
theorem sU (k m : Int) (s : ByteArray) (A : Option Addr) (n c : Nat) (w : World) :
  Calls Tryz.prog 165 #[.agg #[.int .i64 k, .int .i64 m, .string s, .slice A n c]] w fun e w' => e = .returned (.agg #[.int .i64 1, .int .i64 0, .string ⟨#[]⟩, .int .i64 k, .int .i64 m, .string s, .slice A n c, .slice none 0 0]) ∧ Below w.heap.size w w' := by
 go_enter Tryz.func165, Tryz.ntmps165
 go_wp2
 exact bodyPost_ret (v := .agg #[.int .i64 1, .int .i64 0, .string ⟨#[]⟩, .int .i64 k, .int .i64 m, .string s, .slice A n c, .slice none 0 0]) (by simp [results, Tryz.results165, go_sem]) rfl ⟨rfl, ((Below.refl _ w).alloc (Nat.le_refl _) _).alloc (by simp) _⟩
theorem jk (s : ByteArray) (w : World) (hs : Sp w) :
  Calls Tryz.prog 174 #[.string s] w fun e w' => e = .returned (.bool (aB.contains s.data.toList)) ∧ Below w.heap.size w w' := by
 have DK := qh hs
 obtain ⟨q, hq⟩ := ae (aB.contains s.data.toList)
 have HQ := qh hq
 rw [hq]
 clear hs hq
 go_enter Tryz.func174, Tryz.ntmps174
 go_wp2_with fail
 refine (Bl w DK.out).mono ?_
 rintro e w1 ⟨rfl, hw1⟩
 have hb1 : Below w.heap.size w w1 := hw1 ▸ (Below.refl _ w).alloc (Nat.le_refl _) _
 have B1 := qh (hw1 ▸ af.new w _ _ : af w1 w.heap.size 9 #[.string ⟨#[97, 110, 100]⟩, .string ⟨#[111, 114]⟩, .string ⟨#[110, 111, 116]⟩, .string ⟨#[105, 110]⟩, .string ⟨#[104, 97, 115]⟩, .string ⟨#[109, 111, 100]⟩, .string ⟨#[116, 114, 117, 101]⟩, .string ⟨#[102, 97, 108, 115, 101]⟩])
 clear hw1
 go_wp2_with fail
 refine (xP w.heap.size s w1 B1.out).mono ?_
 rw [HQ.out]
 rintro e w2 ⟨rfl, rfl⟩
 go_wp2_with fail
 go_ret
 exact ⟨rfl, hb1⟩
def mD (l : List (List UInt8)) : List ByteArray := l.map fun x => (⟨x.toArray⟩ : ByteArray)
theorem fC (u : ByteArray) (l : List (List UInt8)) (w : World) (h : Sp w) (hu : u.size ≤ 1000) (ha : u.data.toList.all (fun b => decide (b.toNat < 128)) = true) (hl : Lib.fields u.data.toList = l) :
  Calls Tryz.prog 119 #[.string u] w fun e w' => ∃ b c, e = .returned (.slice (some ⟨b, 0, none⟩) l.length c) ∧ (∀ j, j < l.length → w'.cell? ⟨b, 0 + j, none⟩ = some (.string ((mD l).getD j ByteArray.empty))) ∧ b < w'.heap.size ∧ Below w.heap.size w w' := by
 have hc := Tryz.strings_Fields u w (by omega) (Ff _ ha) h
 rw [hl] at hc
 refine hc.mono ?_
 rintro e w' ⟨rfl, rfl⟩
 refine ⟨w.heap.size, l.length, by rfl, fun j hj => ?_, by simp, (Below.refl _ w).alloc (Nat.le_refl _) _⟩
 rw [Nat.zero_add, (af.new w _ _).cell j]
 unfold mD
 simp [hj]
theorem CQ (l : List (List UInt8)) (x : List UInt8) (b c : Nat) (w : World) (hl : l.length ≤ 1000) (hc : ∀ j, j < l.length → w.cell? ⟨b, 0 + j, none⟩ = some (.string ((mD l).getD j ByteArray.empty))) :
  Calls Tryz.prog 138 #[.slice (some ⟨b, 0, none⟩) l.length c, .string (tb x)] w fun e w' => e = .returned (.int .i64 (yT l x)) ∧ w = w' := by
 have hz : (mD l).length = l.length := by unfold mD; simp
 refine (Tryz.slices_Index_string b 0 l.length c (mD l) (tb x) w (by omega) (by omega) (fun j hj => hc j (by omega))).mono fun e w' ⟨he, hw⟩ => ⟨?_, hw.symm⟩
 rw [he, ← hz, List.take_length]
 rfl
theorem qM (l : List (List UInt8)) (x : List UInt8) (b c : Nat) (w : World) (hl : l.length ≤ 1000) (hc : ∀ j, j < l.length → w.cell? ⟨b, 0 + j, none⟩ = some (.string ((mD l).getD j ByteArray.empty))) :
  Calls Tryz.prog 118 #[.slice (some ⟨b, 0, none⟩) l.length c, .string (tb x)] w fun e w' => e = .returned (.bool (Lib.containsS (mD l) (tb x))) ∧ w = w' := by
 have hz : (mD l).length = l.length := by unfold mD; simp
 refine (Tryz.slices_Contains_string b 0 l.length c (mD l) (tb x) w (by omega) (by omega) (fun j hj => hc j (by omega))).mono fun e w' ⟨he, hw⟩ => ⟨?_, hw.symm⟩
 rw [he, ← hz, List.take_length]
theorem CU (x : ByteArray) : ∀ (zs : List ByteArray) (i : Nat), -1 ≤ Lib.idxFromS zs x i ∧ Lib.idxFromS zs x i ≤ i + zs.length
 | [], i => by rw [Lib.idxFromS]; omega
 | z :: zs, i => by
  rw [Lib.idxFromS, List.length_cons]
  have h := CU x zs (i + 1)
  split <;> omega
theorem Ob (l : List (List UInt8)) (x : List UInt8) (hl : l.length ≤ 1000) : -1 ≤ yT l x ∧ yT l x ≤ 1000 := by
 have h := CU (tb x) (l.map fun x => (⟨x.toArray⟩ : ByteArray)) 0
 rw [List.length_map] at h
 unfold yT Lib.idxOfS
 omega
theorem JH (x : List UInt8) (w : World) (hs : Sp w) :
  Calls Tryz.prog 177 #[.string (tb x)] w fun e w' => e = .returned (.int .i64 (gm x)) ∧ Below w.heap.size w w' := by
 have DK := qh hs
 obtain ⟨o, ho⟩ := ae (gm x)
 have HO := qh ((YE x).trans ho)
 rw [ho]
 have Oc := qh (fun b c W => CQ qL x b c W (by decide))
 have HBD := Ob qL x (by decide)
 obtain ⟨i, hi⟩ := ae (yT qL x)
 rw [hi] at Oc HBD HO
 obtain ⟨v, hv⟩ := ae (tb x)
 have HV := qh hv
 rw [hv] at Oc ⊢
 clear hs ho hi hv
 go_enter Tryz.func177, Tryz.ntmps177
 go_wp2_with fail
 refine (fC ⟨#[97, 110, 115, 119, 101, 114, 101, 100, 32, 97, 115, 107, 101, 100, 32, 114, 101, 97, 115, 111, 110, 32, 45, 32, 45, 32, 45, 32, 45, 32, 45, 32, 45, 32, 97, 98, 115, 32, 102, 108, 111, 111, 114, 32, 114, 111, 117, 110, 100, 32, 109, 105, 110, 32, 109, 97, 120, 32, 105, 102, 32, 101, 108, 115, 101, 32, 115, 105, 122, 101, 32, 99, 111, 100, 101, 32, 108, 111, 119, 101, 114, 32, 106, 111, 105, 110, 32, 98, 101, 103, 105, 110, 115, 32, 104, 111, 108, 100, 115, 32, 121, 101, 97, 114, 32, 109, 111, 110, 116, 104, 32, 100, 97, 121, 32, 100, 97, 121, 115, 32, 97, 103, 101, 32, 108, 97, 116, 101, 114]⟩ qL w DK.out (by decide +kernel) (by decide +kernel) Qj).mono ?_
 rintro e w1 ⟨b, c, rfl, hc, -, hb1⟩
 have HC := qh hc
 clear hc
 go_wp2_with fail
 refine (Oc.out b c w1 HC.out).mono ?_
 rintro e w2 ⟨rfl, rfl⟩
 by_cases h0 : 0 ≤ i
 ·
  by_cases hx : x = [45]
  ·
   have b2 : (v.toList == [45]) = true := by rw [ByteArray.toList_eq, ← HV.out, bT, hx]; rfl
   have HR := qh (show o = 0 by rw [← HO.out, if_neg (fun q => q.2 hx)])
   go_wp2_with fail
   go_ret
   exact ⟨congrArg (fun x => Ending.returned (Value.int .i64 x)) HR.out.symm, hb1⟩
  ·
   have b2 : (v.toList == [45]) = false := by rw [ByteArray.toList_eq, ← HV.out, bT, beq_eq_false_iff_ne]; exact hx
   have HR := qh (show o = 12 + i by rw [← HO.out, if_pos ⟨h0, hx⟩])
   have HW := qh (show IntKind.i64.wrap (12 + i) = 12 + i from IntWalk.i64_in _ (by omega))
   go_wp2_with fail
   go_ret
   exact ⟨congrArg (fun x => Ending.returned (Value.int .i64 x)) HR.out.symm, hb1⟩
 ·
  have HR := qh (show o = 0 by rw [← HO.out, if_neg (fun q => h0 q.1)])
  go_wp2_with fail
  go_ret
  exact ⟨congrArg (fun x => Ending.returned (Value.int .i64 x)) HR.out.symm, hb1⟩
theorem L9 {t : Tok} (h : t.touch = true) : bH t = [63] := by unfold bH; rw [if_pos h]
theorem sV {t : Tok} (h : t.touch = false) : bH t = t.tx := by unfold bH; rw [h]; rfl
theorem sW (t : Tok) (r : List Tok) : nameAt (t :: r) = if nameB (bH t) then some (bH t) else none := by
 cases h : t.touch with
 | true =>
  rw [L9 h]
  show (if !t.touch && nameB t.tx then some t.tx else none) = _
  rw [h]
  rfl
 | false =>
  rw [sV h]
  show (if !t.touch && nameB t.tx then some t.tx else none) = _
  rw [h]
  rfl
def RM.nm (st : RM) : Option (List UInt8) := match st with
 | .at_ l => nameAt l
 | .wr _ => none
def RM.CX (st : RM) (n : Nat) : RM := match st.nm with
 | some _ => st.tl
 | none => .wr (st.ref n)
theorem RM.text {st : RM} {n : Nat} {x : List UInt8} (h : (st.pk n).1 = x) (hx : x ≠ []) : ∃ t r, st = .at_ (t :: r) ∧ bH t = x := by
 cases st with
 | wr k => exact absurd h.symm hx
 | at_ l =>
  cases l with
  | nil => exact absurd h.symm hx
  | cons t r => exact ⟨t, r, rfl, h⟩
theorem RM.Oe {st : RM} {n : Nat} {x : List UInt8} (h : (st.pk n).1 = x) (hn : nameB x = false) : st.nm = none := by
 cases st with
 | wr k => rfl
 | at_ l =>
  cases l with
  | nil => rfl
  | cons t r =>
   show nameAt (t :: r) = none
   rw [sW, show bH t = x from h, hn]
   rfl
theorem nO {w : World} {g : Nat} {s : ByteArray} {st : RM} (h : dQ w g s st) (KD : ByteArray) : Calls Tryz.prog 16 #[.pointer (some ⟨g, 0, none⟩), .agg #[.string KD, .int .i64 ((st.pk s.size).2 : Nat)]] w fun e w' => e = .returned (.agg #[.int .i64 0, .int .i64 0, .string ⟨#[]⟩, .int .i64 0, .int .i64 0, .string ⟨#[]⟩, .slice none 0 0, .slice none 0 0]) ∧ dQ w' g s (.wr (st.ref s.size)) ∧ Kp g w w' := by
 cases st with
 | at_ l =>
  have h1 := xq w g s.size l h.1 KD (pk s.size l).2
  rw [Cj] at h1
  show Calls _ _ #[_, .agg #[.string KD, .int .i64 ((pk s.size l).2 : Nat)]] _ _
  rw [Cj]
  exact h1
 | wr k => exact yM w g s.size k h KD s.size
theorem nS {x : List UInt8} {v : ByteArray} {c : UInt8} {r : List UInt8} (h : tb x = v) (hx : x = c :: r) : ∃ hu : 0 < v.size, v[0] = c := by
 subst h
 have h0 : 0 < (tb x).size := by rw [dm, hx]; simp
 refine ⟨h0, ?_⟩
 have h1 : (tb x).data.toList[0]? = some c := by rw [bT, hx]; rfl
 have h2 : (tb x).data.toList[0]? = some (tb x)[0] := by
  rw [List.getElem?_eq_getElem (by rw [ak]; exact h0)]; rfl
 rw [h2] at h1
 injection h1
theorem kM {x : List UInt8} {v : ByteArray} (h : tb x = v) (hx : x ≠ []) : v.toList.isEmpty = false := by
 cases h0 : v.toList.isEmpty with
 | false => rfl
 | true =>
  have h1 : v.toList = [] := List.isEmpty_iff.1 h0
  have h2 : (v.toList == (⟨#[]⟩ : ByteArray).toList) = true := by rw [h1]; simp
  have h3 : (v.toList == (⟨#[]⟩ : ByteArray).toList) = false := bZ (fun e => hx (uK (by rw [h, e]; rfl)))
  rw [h3] at h2; cases h2
theorem iJ {w : World} {g : Nat} {s : ByteArray} {st : RM} (h : dQ w g s st) (hsp : Sp w) :
  Calls Tryz.prog 176 #[.pointer (some ⟨g, 0, none⟩)] w fun e w' => e = .returned (.string (tb (st.nm.getD []))) ∧ dQ w' g s (st.CX s.size) ∧ Kp g w w' := by
 have qf := qh h
 have DK := qh hsp
 have hlt := h.lt
 obtain ⟨x, hx⟩ := ae ((st.pk s.size).1)
 obtain ⟨a, ha⟩ := ae ((st.pk s.size).2)
 obtain ⟨v, hv⟩ := ae (tb x)
 have kY := qh (kX h)
 have wG := qh (fun W (hW : dQ W g s st) => nO hW v)
 rw [hx, hv, ha] at kY
 rw [ha] at wG
 have HX := qh hx
 have HV := qh hv
 clear h hsp hx ha
 by_cases h0 : x = []
 ·
  subst h0
  have e0 : v = ⟨#[]⟩ := hv.symm
  subst e0
  clear hv
  go_enter Tryz.func176, Tryz.ntmps176
  go_upto_region 2 with (go_at_call 17; (with_reducible refine kY.out.mono ?_); rintro e w1 ⟨rfl, hb1⟩)
  obtain ⟨W, hW⟩ := au (w1.alloc (.cells #[.string ⟨#[]⟩, .int .i64 (a : Nat)] 48 (0, 0)))
  have hbW : Below w.heap.size w W := by rw [hW]; exact hb1.alloc hb1.size _
  have BT : af W w1.heap.size 48 #[.string ⟨#[]⟩, .int .i64 (a : Nat)] := by rw [hW]; exact af.new w1 _ _
  have hsW : w.heap.size ≤ w1.heap.size := hb1.size
  rw [← hW]
  clear hW hb1
  obtain ⟨kD, nz⟩ := af.c2 BT
  have HS := qh (RM.Oe HX.out rfl)
  go_wp2_with (go_at_call 16; (with_reducible refine (wG.out W (qf.out.below hbW)).mono ?_); rintro e w3 ⟨rfl, hs3, hk3⟩)
  go_ret
  refine ⟨by rw [HS.out]; rfl, by unfold RM.CX; rw [HS.out]; exact hs3, (Kp.of hbW).trans hk3⟩
 ·
  have hem := kM hv h0
  obtain ⟨c, r, hcr⟩ : ∃ c r, x = c :: r := by
   cases x with
   | nil => exact absurd rfl h0
   | cons c r => exact ⟨c, r, rfl⟩
  obtain ⟨hu0, hu1⟩ := nS hv hcr
  have HCR := qh hcr
  have HU1 := qh hu1
  have qN := qh (fun W hW => jk v W hW)
  have G6 : v.data.toList = x := by rw [← hv, bT]
  rw [G6] at qN
  have HX0 := qh h0
  clear hv hcr G6 h0
  by_cases l1 : ((v[0].toNat : Nat) : Int) < 97
  ·
   have b1 : decide (((v[0].toNat : Nat) : Int) < 97) = true := by simpa using l1
   have hno : nameB x = false := by
    rw [HCR.out]
    show (dE c && _) = false
    rw [show dE c = false from by rw [← HU1.out]; unfold dE; simp; omega]
    rfl
   have rD := qh hno
   clear hu1 hno
   go_enter Tryz.func176, Tryz.ntmps176
   go_upto_region 2 with (go_at_call 17; (with_reducible refine kY.out.mono ?_); rintro e w1 ⟨rfl, hb1⟩)
   obtain ⟨W, hW⟩ := au (w1.alloc (.cells #[.string v, .int .i64 (a : Nat)] 48 (0, 0)))
   have hbW : Below w.heap.size w W := by rw [hW]; exact hb1.alloc hb1.size _
   have BT : af W w1.heap.size 48 #[.string v, .int .i64 (a : Nat)] := by rw [hW]; exact af.new w1 _ _
   have hsW : w.heap.size ≤ w1.heap.size := hb1.size
   rw [← hW]
   clear hW hb1
   obtain ⟨kD, nz⟩ := af.c2 BT
   have HS := qh (RM.Oe HX.out rD.out)
   go_wp2_with (go_at_call 16; (with_reducible refine (wG.out W (qf.out.below hbW)).mono ?_); rintro e w3 ⟨rfl, hs3, hk3⟩)
   go_ret
   refine ⟨by rw [HS.out]; rfl, by unfold RM.CX; rw [HS.out]; exact hs3, (Kp.of hbW).trans hk3⟩
  ·
   have b1 : decide (((v[0].toNat : Nat) : Int) < 97) = false := by simpa using l1
   by_cases l2 : 122 < ((v[0].toNat : Nat) : Int)
   ·
    have b2 : decide (122 < ((v[0].toNat : Nat) : Int)) = true := by simpa using l2
    have hno : nameB x = false := by
     rw [HCR.out]
     show (dE c && _) = false
     rw [show dE c = false from by rw [← HU1.out]; unfold dE; simp; omega]
     rfl
    have rD := qh hno
    clear hu1 hno
    go_enter Tryz.func176, Tryz.ntmps176
    go_upto_region 2 with (go_at_call 17; (with_reducible refine kY.out.mono ?_); rintro e w1 ⟨rfl, hb1⟩)
    obtain ⟨W, hW⟩ := au (w1.alloc (.cells #[.string v, .int .i64 (a : Nat)] 48 (0, 0)))
    have hbW : Below w.heap.size w W := by rw [hW]; exact hb1.alloc hb1.size _
    have BT : af W w1.heap.size 48 #[.string v, .int .i64 (a : Nat)] := by rw [hW]; exact af.new w1 _ _
    have hsW : w.heap.size ≤ w1.heap.size := hb1.size
    rw [← hW]
    clear hW hb1
    obtain ⟨kD, nz⟩ := af.c2 BT
    have HS := qh (RM.Oe HX.out rD.out)
    go_wp2_with (go_at_call 16; (with_reducible refine (wG.out W (qf.out.below hbW)).mono ?_); rintro e w3 ⟨rfl, hs3, hk3⟩)
    go_ret
    refine ⟨by rw [HS.out]; rfl, by unfold RM.CX; rw [HS.out]; exact hs3, (Kp.of hbW).trans hk3⟩
   ·
    have b2 : decide (122 < ((v[0].toNat : Nat) : Int)) = false := by simpa using l2
    obtain ⟨q, hq⟩ := ae (aB.contains x)
    have YF := qh (show nameB x = !q by
     rw [← hq, HCR.out]
     show (dE c && !aB.contains (c :: r)) = _
     rw [show dE c = true from by rw [← HU1.out]; unfold dE; simp; omega]
     rfl)
    rw [hq] at qN
    clear hu1 hq
    go_enter Tryz.func176, Tryz.ntmps176
    go_upto_region 2 with (go_at_call 17; (with_reducible refine kY.out.mono ?_); rintro e w1 ⟨rfl, hb1⟩)
    obtain ⟨W, hW⟩ := au (w1.alloc (.cells #[.string v, .int .i64 (a : Nat)] 48 (0, 0)))
    have hbW : Below w.heap.size w W := by rw [hW]; exact hb1.alloc hb1.size _
    have BT : af W w1.heap.size 48 #[.string v, .int .i64 (a : Nat)] := by rw [hW]; exact af.new w1 _ _
    have hsW : w.heap.size ≤ w1.heap.size := hb1.size
    rw [← hW]
    clear hW hb1
    obtain ⟨kD, nz⟩ := af.c2 BT
    go_wp2_with fail
    refine (qN.out W (bD DK.out hbW)).mono ?_
    rintro e w2 ⟨rfl, hb2⟩
    have hb := hbW.trans (hb2.mono hbW.size)
    have XT := BT.below hb2 BT.lt
    obtain ⟨Fp, KC⟩ := af.c2 XT
    cases q
    ·
     obtain ⟨t, r0, hst, hrt⟩ := RM.text HX.out HX0.out
     have hnm : st.nm = some x := by
      rw [hst]
      show nameAt (t :: r0) = some x
      rw [sW, hrt, YF.out]
      rfl
     have NM := qh hnm
     have V9 := qh (show st.CX s.size = .at_ r0 by unfold RM.CX; rw [hnm, hst]; rfl)
     have HR2 := qh (show pY w2 g s.size (t :: r0) ∧ ∃ i, i ≤ s.size ∧ t :: r0 = wordsOf s.data.toList i by have h := qf.out.below hb; rw [hst] at h; exact h)
     obtain ⟨ad, c2, hk, hc, -, -, -⟩ := HR2.out.1.head
     have c0 : w2.cell? ⟨g, 0, none⟩ = some (.slice (some ad) (r0.length + 1) c2) := hk.cell 0
     have z0 : w2.frozen? ⟨g, 0, none⟩ = false := hk.frozen 0
     have hsl := pO w2 ad r0.length c2 hc
     have jW := qh (HR2.out.1.tail hk hc)
     have XU := qh (show ∃ j, j ≤ s.size ∧ r0 = wordsOf s.data.toList j by
      obtain ⟨i, hi, e⟩ := HR2.out.2
      obtain ⟨j, hj, e2⟩ := mX hi
      exact ⟨j, hj, by rw [← e2, ← e]; rfl⟩)
     have HBK := qh hb
     have hgt : g < w1.heap.size := by omega
     clear hst hrt hnm hk hb hb2
     by_cases hc1 : c2 = 1
     ·
      subst hc1
      have jW := qh (show pY (w2.setCell ⟨g, 0, none⟩ (.slice (some ad) r0.length 0)) g s.size r0 from jW.out)
      go_wp2_with fail
      go_ret
      exact ⟨by rw [NM.out]; exact congrArg (fun x => Ending.returned (Value.string x)) HV.out.symm, by rw [V9.out]; exact ⟨jW.out, XU.out⟩, (Kp.of HBK.out).set 0 _⟩
     ·
      have jW := qh (show pY (w2.setCell ⟨g, 0, none⟩ (.slice (some ⟨ad.block, ad.off + 2, none⟩) r0.length (c2 - 1))) g s.size r0 from by have h := jW.out; rw [if_neg hc1] at h; exact h)
      go_wp2_with fail
      go_ret
      exact ⟨by rw [NM.out]; exact congrArg (fun x => Ending.returned (Value.string x)) HV.out.symm, by rw [V9.out]; exact ⟨jW.out, XU.out⟩, (Kp.of HBK.out).set 0 _⟩
    ·
     have rD := qh (show nameB x = false from YF.out)
     have HS := qh (RM.Oe HX.out rD.out)
     go_wp2_with (go_at_call 16; (with_reducible refine (wG.out w2 (qf.out.below hb)).mono ?_); rintro e w3 ⟨rfl, hs3, hk3⟩)
     go_ret
     refine ⟨by rw [HS.out]; rfl, by unfold RM.CX; rw [HS.out]; exact hs3, (Kp.of hb).trans hk3⟩
end Go.Proofs.YtobanldeicclmaaGreatDoor
namespace Go.Proofs.YtobanldeicclmaaGreatDoor
open Vtx Go.Lib
noncomputable def yU (x : List UInt8) : Option Val := match fQ (ou x) with
 | some v => if v.k = 0 ∨ v.k = 1 then none else some v
 | none => none
theorem Mc {x : List UInt8} (hc : dF x = true) : yU x = fQ (if fM x then iE x else x) := by
 show yU x = fQ (ou x)
 unfold yU
 cases h : fQ (ou x) with
 | none => rfl
 | some v =>
  have h1 := Qh hc h
  show (if v.k = 0 ∨ v.k = 1 then none else some v) = some v
  rw [if_neg (by rintro (e | e); exact h1.1 e; exact h1.2 e)]
theorem JI {x : List UInt8} (hc : dF x = false) (h45 : ∀ r, x = 45 :: r → r = []) : yU x = none := by
 unfold yU
 cases h : fQ (ou x) with
 | none => rfl
 | some v =>
  have h1 := WO hc h45 h
  show (if v.k = 0 ∨ v.k = 1 then none else some v) = none
  rw [if_pos h1]
def RM.wt (st : RM) (n : Nat) (word : List UInt8) : RM := if st.is word = true then st.tl else .wr (st.ref n)
def RM.cl (st : RM) : Bool := match st with
 | .at_ (t :: u :: _) => decide (bH u = [40]) && decide (u.at_ = t.at_ + (bH t).length)
 | _ => false
theorem nP {t : Tok} {x : List UInt8} (h : bH t = x) (hx : x ≠ [63]) : t.touch = false ∧ t.tx = x := by
 cases ht : t.touch with
 | true => exact absurd ((L9 ht).symm.trans h).symm hx
 | false => exact ⟨rfl, (sV ht).symm.trans h⟩
theorem rG {s : List UInt8} {i : Nat} {t : Tok} {r : List Tok} (hw : wordsOf s i = t :: r) (ht : t.touch = false) : (RM.at_ (t :: r)).cl = jH t r := by
 obtain ⟨-, hr⟩ := dJ hw
 cases r with
 | nil => rfl
 | cons u r' =>
  obtain ⟨hu, -⟩ := dJ hr.symm
  show (decide (bH u = [40]) && decide (u.at_ = t.at_ + (bH t).length)) = (decide (u.tx = [40]) && decide (u.at_ = t.at_ + t.tx.length))
  rw [sV ht]
  congr 1
  refine decide_eq_decide.2 ⟨fun h => (nP h (by decide)).2, fun h => ?_⟩
  rw [sV (xN hu h (by decide)), h]
section
variable {s : List UInt8} {i n : Nat} {t : Tok} {r : List Tok}
theorem Un (hw : wordsOf s i = t :: r) (uk : bH t ≠ [40]) (hv : dF (bH t) = true ∨ nameB (bH t) = false ∧ dF (bH t) = false) : Pz n .az [] (t :: r) = match yU (bH t) with
  | some v => .ok [dX v] r
  | none => .err t.at_ := by
 rw [bW]
 dsimp only [dB]
 cases ht : t.touch with
 | true => rw [L9 ht, JI (by decide) (fun r h => by cases h)]; rfl
 | false =>
  rw [sV ht] at uk hv ⊢
  rw [if_neg (by decide)]
  rcases hv with hv | ⟨hv, hc⟩
  ·
   rw [if_pos hv, Mc hv]
   cases fQ (if fM t.tx = true then iE t.tx else t.tx) <;> rfl
  ·
   rw [hc, if_neg (by decide), if_neg uk, if_pos hv, JI hc (fun r2 h => by
    have h2 := Qi (dJ hw).1 h
    rw [h] at h2
    injection h2)]
theorem Md (h : bH t = [40]) : Pz n .az [] (t :: r) = (Pz n .or [] r).bind fun es l1 => aN n [41] l1 fun l2 => .ok es l2 := by
 obtain ⟨ht, hx⟩ := nP h (by decide)
 rw [bW]
 dsimp only [dB]
 rw [ht, if_neg (by decide), hx, if_neg (by decide), if_pos rfl]
theorem Me (uk : bH t ≠ [40]) (hc : dF (bH t) = false) (hn : nameB (bH t) = false) (hx : bH t ≠ [63]) : Pz n .az [] (t :: r) = .err t.at_ := by
 obtain ⟨ht, e⟩ := nP (t := t) rfl hx
 rw [← e] at uk hc hn
 rw [bW]
 dsimp only [dB]
 rw [ht, if_neg (by decide), hc, if_neg (by decide), if_neg uk, if_pos hn]
theorem lN {x : List UInt8} (h : nameB x = true) : x ≠ [63] ∧ x ≠ [40] ∧ dF x = false ∧ ∃ c y, x = c :: y ∧ dE c = true := by
 cases x with
 | nil => cases h
 | cons c y =>
  have h : (dE c && !aB.contains (c :: y)) = true := h
  obtain ⟨h1, h2⟩ := (Bool.and_eq_true _ _).mp h
  have h3 : 97 ≤ c.toNat ∧ c.toNat ≤ 122 := by
   have := h1
   unfold dE at this
   simpa using this
  have hd : ∀ d : UInt8, d.toNat < 97 ∨ 122 < d.toNat → c ≠ d := fun d hd e => by rw [e] at h3; omega
  have hr : ∀ z, z ∈ aB → c :: y ≠ z := fun z hz e => by
   rw [e, List.contains_iff_mem.2 hz] at h2
   cases h2
  refine ⟨fun e => ?_, fun e => ?_, ?_, c, y, rfl, h1⟩
  ·
   injection e with e
   exact hd 63 (by decide) e
  ·
   injection e with e
   exact hd 40 (by decide) e
  ·
   unfold dF
   show (bI c || decide (c = 64) || decide (c = 35) || decide (c = 39) || decide (c = 123) || decide (c :: y = iP) || decide (c :: y = dV)) = false
   rw [decide_eq_false (hd 64 (by decide)), decide_eq_false (hd 35 (by decide)), decide_eq_false (hd 39 (by decide)), decide_eq_false (hd 123 (by decide)), decide_eq_false (hr iP (by decide)), decide_eq_false (hr dV (by decide))]
   have h4 : bI c = false := by unfold bI; simp; omega
   rw [h4]
   rfl
theorem vS (hn : nameB (bH t) = true) : t.touch = false ∧ t.tx = bH t ∧ Pz n .az [] (t :: r) = if jH t r = false then .ok [bP 2 0 t.tx []] r else
    if cZ t.tx ≠ 0 then (match nameAt r.tail with
     | none => .err (dO n r.tail)
     | some nm => aN n [58] r.tail.tail fun l1 => (Pz n .or [] l1).bind fun es l2 => aN n [41] l2 fun l3 => .ok [bP 5 (cZ t.tx) nm es] l3) else
    if gm t.tx ≠ 0 then (Pz n (.args (gm t.tx)) [] r.tail).bind fun es l1 => aN n [41] l1 fun l2 => .ok [bQ (gm t.tx) es] l2 else
    if t.tx = pI then (match nameAt r.tail with
     | none => .err (dO n r.tail)
     | some nm => aN n [41] r.tail.tail fun l1 => .ok [bP 3 0 nm []] l1) else
    .ok [bP 2 0 t.tx []] r := by
 obtain ⟨h63, uk, hc, -⟩ := lN hn
 obtain ⟨ht, e⟩ := nP (t := t) rfl h63
 refine ⟨ht, e, ?_⟩
 rw [← e] at uk hc hn
 rw [bW]
 dsimp only [dB]
 rw [ht, if_neg (by decide), hc, if_neg (by decide), if_neg uk, if_neg (by rw [hn]; decide)]
 cases nameAt r.tail <;> rfl
theorem FI (hn : nameB (bH t) = true) (h : jH t r = false ∨ (cZ (bH t) = 0 ∧ gm (bH t) = 0 ∧ bH t ≠ pI)) : Pz n .az [] (t :: r) = .ok [bP 2 0 (bH t) []] r := by
 obtain ⟨ht, e, h1⟩ := vS (n := n) (r := r) hn
 rw [h1, e]
 rcases h with h | ⟨h2, h3, h4⟩
 ·
  rw [if_pos h]
 ·
  split
  ·
   rfl
  ·
   first
   | rfl
   | rw [if_neg (by rw [h2]; decide), if_neg (by rw [h3]; decide)]
   | rw [if_neg (by rw [h2]; decide), if_neg (by rw [h3]; decide), if_neg h4]
noncomputable def Qk (n : Nat) (st : RM) : jO := match st with
 | .at_ l => (match nameAt l with
  | none => .err (dO n l)
  | some nm => aN n [41] l.tail fun l1 => .ok [bP 3 0 nm []] l1)
 | .wr k => .err k
noncomputable def overR (n : Nat) (o : Int) (st : RM) : jO := match st with
 | .at_ l => (match nameAt l with
  | none => .err (dO n l)
  | some nm => aN n [58] l.tail fun l1 => (Pz n .or [] l1).bind fun es l2 => aN n [41] l2 fun l3 => .ok [bP 5 o nm es] l3)
 | .wr k => .err k
noncomputable def FK (n : Nat) (o : Int) (st : RM) : jO := (st.P n (.args o)).bind fun es l1 => aN n [41] l1 fun l2 => .ok [bQ o es] l2
theorem Uo (hn : bH t = pI) (h : jH t r = true) : Pz n .az [] (t :: r) = Qk n (.at_ r.tail) := by
 obtain ⟨ht, e, h1⟩ := vS (n := n) (t := t) (r := r) (by rw [hn]; decide)
 rw [h1, e, h, hn, if_neg (by decide), if_neg (by decide), if_neg (by decide), if_pos rfl]
 rfl
theorem Ql (hn : nameB (bH t) = true) (h : jH t r = true) {o : Int} (ho : cZ (bH t) = o) (h0 : o ≠ 0) : Pz n .az [] (t :: r) = overR n o (.at_ r.tail) := by
 obtain ⟨ht, e, h1⟩ := vS (n := n) (r := r) hn
 rw [h1, e, h, ho, if_neg (by decide), if_pos h0]
 rfl
theorem WQ (hn : nameB (bH t) = true) (h : jH t r = true) (h2 : cZ (bH t) = 0) {o : Int} (ho : gm (bH t) = o) (h0 : o ≠ 0) : Pz n .az [] (t :: r) = FK n o (.at_ r.tail) := by
 obtain ⟨ht, e, h1⟩ := vS (n := n) (r := r) hn
 rw [h1, e, h, h2, ho, if_neg (by decide), if_neg (by decide), if_pos h0]
 rfl
end
theorem zU {n : Nat} {word : List UInt8} (h63 : word ≠ [63]) (h0 : word ≠ []) {r : jO} {f : List Ex → List Ex} : aX (r.bind fun es l => aN n word l fun l2 => .ok (f es) l2) = (aX r).wt n word := by
 cases r with
 | err k => rfl
 | ok es l =>
  show aX (aN n word l fun l2 => .ok (f es) l2) = if vN l word = true then .at_ l.tail else .wr (dO n l)
  rw [jI l h63 h0]
  unfold aN
  cases kU l word
  ·
   rfl
  ·
   rfl
theorem Qm {n : Nat} {st : RM} : aX (Qk n st) = (st.CX n).wt n [41] ∧ (∀ es l, Qk n st = .ok es l → es = [bP 3 0 (st.nm.getD []) []]) := by
 cases st with
 | wr k => exact ⟨rfl, fun es l h => by cases h⟩
 | at_ l =>
  show aX (match nameAt l with
   | none => .err (dO n l)
   | some nm => aN n [41] l.tail fun l1 => .ok [bP 3 0 nm []] l1) = (match nameAt l with
   | some _ => RM.at_ l.tail
   | none => .wr (dO n l)).wt n [41] ∧ _
  cases h : nameAt l with
  | none =>
   refine ⟨rfl, fun es l2 e => ?_⟩
   unfold Qk at e
   simp only [h] at e
   cases e
  | some nm =>
   constructor
   ·
    show aX (aN n [41] l.tail fun l1 => .ok [bP 3 0 nm []] l1) = if vN l.tail [41] = true then .at_ l.tail.tail else .wr (dO n l.tail)
    rw [jI _ (by decide) (by decide)]
    unfold aN
    cases kU l.tail [41] <;> rfl
   ·
    intro es l2 e
    unfold Qk at e
    simp only [h] at e
    unfold aN at e
    show es = [bP 3 0 ((nameAt l).getD []) []]
    rw [h]
    split at e
    ·
     injection e with e1 e2
     exact e1.symm
    ·
     cases e
theorem MB {n : Nat} {o : Int} {st : RM} : overR n o st = ((((st.CX n).wt n [58]).P n .or).bind fun es l2 => aN n [41] l2 fun l3 => .ok [bP 5 o (st.nm.getD []) es] l3) := by
 cases st with
 | wr k => rfl
 | at_ l =>
  show _ = ((((match nameAt l with
   | some _ => RM.at_ l.tail
   | none => .wr (dO n l)) : RM).wt n [58]).P n .or).bind fun es l2 => aN n [41] l2 fun l3 => .ok [bP 5 o ((nameAt l).getD []) es] l3
  unfold overR
  cases h : nameAt l with
  | none => simp only [h]; rfl
  | some nm =>
   simp only [h]
   show (aN n [58] l.tail fun l1 => (Pz n .or [] l1).bind fun es l2 => aN n [41] l2 fun l3 => .ok [bP 5 o nm es] l3) = ((if vN l.tail [58] = true then RM.at_ l.tail.tail else .wr (dO n l.tail)).P n .or).bind fun es l2 => aN n [41] l2 fun l3 => .ok [bP 5 o nm es] l3
   rw [jI _ (by decide) (by decide)]
   unfold aN
   cases kU l.tail [58] <;> rfl
def Og (x : List UInt8) : Bool := match x with
 | c :: _ => bI c
 | [] => false
theorem FM {s : List UInt8} {i n : Nat} {t : Tok} {r : List Tok} (hw : wordsOf s i = t :: r) (ht : bH t = [45]) : qw (t :: r) = (decide ((pk n r).2 = t.at_ + 1) && Og (pk n r).1) ∧ ∀ u r', r = u :: r' → qw (t :: r) = true → bH u = u.tx := by
 obtain ⟨h63, hx⟩ := nP ht (by decide)
 obtain ⟨h1, hr⟩ := dJ hw
 cases r with
 | nil => exact ⟨by show false = (decide (n = t.at_ + 1) && false); rw [Bool.and_false], fun u r' e => by cases e⟩
 | cons u r' =>
  obtain ⟨hu, -⟩ := dJ hr.symm
  have hf := OY h1 hu hx (by decide)
  constructor
  ·
   show (decide (u.at_ = t.at_ + 1) && (match u.tx with
    | c :: _ => bI c
    | [] => false)) = (decide (u.at_ = t.at_ + 1) && Og (bH u))
   rw [sV hf]
   rfl
  ·
   intro u2 r2 e _
   injection e with e1 e2
   rw [← e1]
   exact sV hf
theorem Qn {s : List UInt8} {i n : Nat} {t : Tok} {r : List Tok} (hw : wordsOf s i = t :: r) (ht : bH t = [45]) (hn : qw (t :: r) = true) : ∃ u r', r = u :: r' ∧ bH u = u.tx ∧ (∃ c y, u.tx = c :: y ∧ bI c = true) ∧ Pz n .minus [] (t :: r) = match fQ (45 :: u.tx) with
  | some v => .ok [dX v] r'
  | none => .err t.at_ := by
 obtain ⟨h1, h2⟩ := FM (n := n) hw ht
 obtain ⟨h63, hx⟩ := nP ht (by decide)
 cases r with
 | nil => cases hn
 | cons u r' =>
  refine ⟨u, r', rfl, h2 u r' rfl hn, ?_, ?_⟩
  ·
   have h3 : (decide (u.at_ = t.at_ + 1) && (match u.tx with
    | c :: _ => bI c
    | [] => false)) = true := hn
   obtain ⟨-, h4⟩ := (Bool.and_eq_true _ _).mp h3
   cases hu : u.tx with
   | nil => rw [hu] at h4; cases h4
   | cons c y => rw [hu] at h4; exact ⟨c, y, rfl, h4⟩
  ·
   rw [bW]
   dsimp only [dB]
   rw [if_pos (by show (!t.touch && decide (t.tx = [45])) = true; rw [h63, hx]; rfl), if_pos hn]
   show (match fQ (45 :: u.tx) with | some v => jO.ok [dX v] r' | none => .err t.at_) = _
   cases fQ (45 :: u.tx) <;> rfl
theorem yV {n : Nat} {t : Tok} {r : List Tok} (ht : bH t = [45]) (hn : qw (t :: r) = false) : Pz n .minus [] (t :: r) = (Pz n .minus [] r).bind fun es l1 => .ok [bQ 20 es] l1 := by
 obtain ⟨h63, hx⟩ := nP ht (by decide)
 rw [bW]
 dsimp only [dB]
 rw [if_pos (by show (!t.touch && decide (t.tx = [45])) = true; rw [h63, hx]; rfl), hn, if_neg (by decide)]
 rfl
theorem MC {n : Nat} {st : RM} (h : st.is [45] = false) : st.P n .minus = st.P n .az := by
 cases st with
 | wr k => rfl
 | at_ l =>
  show Pz n .minus [] l = Pz n .az [] l
  rw [bW]
  dsimp only [dB]
  rw [← jI l (word := [45]) (by decide) (by decide), show vN l [45] = false from h, if_neg (by decide)]
noncomputable def oz (n : Nat) (o : Int) (r : jO) : jO := (r.bind fun es l => Pz n (.lS o) es l).bind fun es l1 => aN n [41] l1 fun l2 => .ok [bQ o es] l2
theorem MF {n : Nat} {o : Int} {st : RM} : FK n o st = oz n o (st.P n .or) := by
 unfold FK oz
 cases st with
 | wr k => rfl
 | at_ l =>
  show (Pz n (.args o) [] l).bind _ = _
  rw [bW]
  rfl
theorem FN {n : Nat} {o : Int} {r : jO} (h : ∀ es l, r = .ok es l → es.length < (iU o).1 ∨ (kU l [44] = true ∧ es.length < (iU o).2)) : oz n o r = oz n o (r.bind fun es l => (((RM.at_ l).wt n [44]).P n .or).bind fun es2 l2 => .ok (es ++ es2) l2) := by
 cases r with
 | err k => rfl
 | ok es l =>
  unfold oz
  show (Pz n (.lS o) es l).bind _ = _
  rw [bW]
  dsimp only [dB]
  rw [if_pos (h es l rfl)]
  show (aN n [44] l fun l1 => (Pz n .or [] l1).bind fun es2 l2 => Pz n (.lS o) (es ++ es2) l2).bind _ = (((((if vN l [44] = true then RM.at_ l.tail else .wr (dO n l)) : RM).P n .or).bind fun es2 l2 => .ok (es ++ es2) l2).bind fun es l => Pz n (.lS o) es l).bind _
  rw [jI _ (by decide) (by decide)]
  unfold aN
  cases kU l [44]
  ·
   rfl
  ·
   show ((Pz n .or [] l.tail).bind _).bind _ = (((Pz n .or [] l.tail).bind _).bind _).bind _
   cases Pz n .or [] l.tail <;> rfl
theorem JJ {n : Nat} {o : Int} {r : jO} (h : ∀ es l, r = .ok es l → ¬ (es.length < (iU o).1 ∨ (kU l [44] = true ∧ es.length < (iU o).2))) : oz n o r = r.bind fun es l => aN n [41] l fun l2 => .ok [bQ o es] l2 := by
 cases r with
 | err k => rfl
 | ok es l =>
  unfold oz
  show (Pz n (.lS o) es l).bind _ = _
  rw [bW]
  dsimp only [dB]
  rw [if_neg (h es l rfl)]
end Go.Proofs.YtobanldeicclmaaGreatDoor
namespace Go.Proofs.YtobanldeicclmaaGreatDoor
open Go.RowKit Vtx
attribute [local go_sem ↓] Go.wp_at_zero Go.wp_at_succ
theorem jV {s : ByteArray} {i : Nat} {t : Tok} {r : List Tok} (h : t :: r = wordsOf s.data.toList i) : t.at_ ≤ s.size ∧ (bH t).length ≤ s.size + 1 := by
 obtain ⟨h1, -⟩ := dJ h.symm
 have h2 := dW h1
 rw [ak] at h2
 refine ⟨by omega, ?_⟩
 unfold bH
 split
 ·
  simp
 ·
  omega
theorem oC {w : World} {g : Nat} {s : ByteArray} {st : RM} (h : dQ w g s st) (hz : s.size ≤ 4000) :
  Calls Tryz.prog 175 #[.pointer (some ⟨g, 0, none⟩)] w fun e w' => e = .returned (.bool st.cl) ∧ Below w.heap.size w w' := by
 cases st with
 | wr k =>
  have c0 : w.cell? ⟨g, 0, none⟩ = some (.slice none 0 0) := af.cell h 0
  have d0 := Later.cell c0
  clear h
  go_enter Tryz.func175, Tryz.ntmps175
  go_upto_region 1 with (fail)
  refine dR (by kernel_rfl) (by kernel_rfl) ?_
  repeat (go_big_quiet_step (fail))
  refine wpQuiet_nil ?_
  intro W9 hw'
  obtain ⟨⟨W9, uV⟩, rfl⟩ := hw'
  go_wp2_with fail
  go_ret
  exact ⟨rfl, uV⟩
 | at_ l =>
  obtain ⟨hr, i, hi, hl⟩ := h
  obtain ⟨A, c, hb, h2, h3⟩ := hr.ex
  have c0 : w.cell? ⟨g, 0, none⟩ = some (.slice A l.length c) := hb.cell 0
  cases l with
  | nil =>
   have d0 := Later.cell c0
   clear hr hb h2 h3 hl
   go_enter Tryz.func175, Tryz.ntmps175
   go_upto_region 1 with (fail)
   refine dR (by kernel_rfl) (by kernel_rfl) ?_
   repeat (go_big_quiet_step (fail))
   refine wpQuiet_nil ?_
   intro W9 hw'
   obtain ⟨⟨W9, uV⟩, rfl⟩ := hw'
   go_wp2_with fail
   go_ret
   exact ⟨rfl, uV⟩
  | cons t r =>
   cases r with
   | nil =>
    have d0 := Later.cell c0
    clear hr hb h2 h3 hl
    go_enter Tryz.func175, Tryz.ntmps175
    go_upto_region 1 with (fail)
    refine dR (by kernel_rfl) (by kernel_rfl) ?_
    repeat (go_big_quiet_step (fail))
    refine wpQuiet_nil ?_
    intro W9 hw'
    obtain ⟨⟨W9, uV⟩, rfl⟩ := hw'
    go_wp2_with fail
    go_ret
    exact ⟨rfl, uV⟩
   | cons u r =>
    obtain ⟨ad, rfl, -, hc⟩ := h2.r.2 (by simp)
    have k0 : w.cell? ad = some (.string (tb (bH t))) := by have h := hc 0 _ rfl; rwa [uP] at h
    have k1 : w.cell? ⟨ad.block, ad.off + 1, none⟩ = some (.int .i64 (t.at_ : Nat)) := hc 1 _ rfl
    have k2 : w.cell? ⟨ad.block, ad.off + 2, none⟩ = some (.string (tb (bH u))) := hc 2 _ rfl
    have k3 : w.cell? ⟨ad.block, ad.off + 3, none⟩ = some (.int .i64 (u.at_ : Nat)) := hc 3 _ rfl
    have hbd := jV hl
    obtain ⟨v, hv⟩ := ae (tb (bH t))
    obtain ⟨x, hx⟩ := ae (tb (bH u))
    have hvs : v.size = (bH t).length := by rw [← hv, dm]
    have hlen : (t :: u :: r).length = r.length + 2 := by simp
    rw [hv] at k0
    rw [hx] at k2
    rw [hlen] at c0
    have HE := qh (Later.call (fun w' (_ : Below w.heap.size w w') => JG v t.at_ w' (by omega) (by omega)))
    have d0 := Later.cell c0
    have j0 := Later.cell k0
    have j1 := Later.cell k1
    have j2 := Later.cell k2
    have j3 := Later.cell k3
    have hz2 : (1 : Int) < ((r.length + 2 : Nat) : Int) := by omega
    have hz3 : (1 : Int) < (r.length : Int) + 2 := by omega
    have hz4 : (0 : Int) < (r.length : Int) + 2 := by omega
    obtain ⟨q, hq⟩ := ae ((RM.at_ (t :: u :: r)).cl)
    rw [hq]
    have HQ := qh (show (decide (bH u = [40]) && decide (u.at_ = t.at_ + (bH t).length)) = q from hq)
    have HVS := qh hvs
    by_cases uk : bH u = [40]
    ·
     have b1 : (x.toList == [40]) = true := by rw [← hx, ByteArray.toList_eq, uk, bT]; rfl
     have HQ2 := qh (show decide (u.at_ = t.at_ + (bH t).length) = q by rw [← HQ.out, decide_eq_true uk, Bool.true_and])
     have hcmp : (((u.at_ : Nat) : Int) == ((t.at_ + v.size : Nat) : Int)) = q := by
      rw [← HQ2.out, HVS.out]
      by_cases hh : u.at_ = t.at_ + (bH t).length
      ·
       rw [hh, decide_eq_true rfl, beq_self_eq_true]
      ·
       rw [decide_eq_false hh, beq_eq_false_iff_ne]
       omega
     clear hr hb h2 h3 hl hc hv hx hbd hvs hq uk HQ
     go_enter Tryz.func175, Tryz.ntmps175
     go_upto_region 1 with (fail)
     refine dR (by kernel_rfl) (by kernel_rfl) ?_
     repeat (go_big_quiet_step (with_reducible exact HE.out _))
     refine wpQuiet_nil ?_
     intro W9 hw'
     obtain ⟨⟨W9, uV⟩, rfl⟩ := hw'
     go_wp2_with fail
     go_ret
     exact ⟨congrArg (fun x => Ending.returned (Value.bool x)) (by rw [← hcmp, Int.natCast_add]), uV⟩
    ·
     have b1 : (x.toList == [40]) = false := by rw [← hx, ByteArray.toList_eq, bT, beq_eq_false_iff_ne]; exact uk
     have HQ2 := qh (show false = q by rw [← HQ.out, decide_eq_false uk, Bool.false_and])
     clear hr hb h2 h3 hl hc hv hx hbd hvs hq uk HQ
     go_enter Tryz.func175, Tryz.ntmps175
     go_upto_region 1 with (fail)
     refine dR (by kernel_rfl) (by kernel_rfl) ?_
     repeat (go_big_quiet_step (with_reducible exact HE.out _))
     refine wpQuiet_nil ?_
     intro W9 hw'
     obtain ⟨⟨W9, uV⟩, rfl⟩ := hw'
     go_wp2_with fail
     go_ret
     exact ⟨congrArg (fun x => Ending.returned (Value.bool x)) HQ2.out, uV⟩
end Go.Proofs.YtobanldeicclmaaGreatDoor
namespace Go.Proofs.YtobanldeicclmaaGreatDoor
open Go.RowKit Dig Vtx
attribute [local go_sem ↓] Go.wp_at_zero Go.wp_at_succ
structure SV (e : Ending) (w : World) (B : Nat) (o : Option Val) : Prop where
 ex : ∃ (x : Val) (A : Option Addr) (c : Nat) (f : Int), e = .returned (.tuple #[.agg #[.int .i64 x.k, .int .i64 x.n, .string x.s, .slice A x.l.length c], .int .i64 f]) ∧ Reads w w.heap.size 1 A x.l.length (dS .i64 x.l) ∧ (∀ ad, A = some ad → B ≤ ad.block) ∧ x.l.length ≤ 4000000 ∧ x.s.size ≤ 4000000 ∧
  (f = 0 → o = some x) ∧ (f ≠ 0 → o = none)
theorem SV.of {e : Ending} {w : World} {B : Nat} {s : List UInt8} (h : RV e w B s) : SV e w B (fQ s) := by
 obtain ⟨x, A, c, f, h1, h2, h3, h4, h5, h6, h7⟩ := h.ex
 exact ⟨x, A, c, f, h1, h2, h3, h4, h5, fun hf => vP (h6 hf).1 (h6 hf).2, fun hf => lJ (h7 hf).2.2⟩
def trimB (p : ByteArray) : ByteArray := tb (Lib.trimS p.data.toList [32])
def JK (ps : List ByteArray) : List Value := (ps.map trimB).map Value.string
theorem MG (s : ByteArray) (w : World) (hs : s.size ≤ 2000000) :
  Calls Tryz.prog 195 #[.string s, .string ⟨#[32]⟩] w fun e w' => e = .returned (.string (trimB s)) ∧ Below w.heap.size w w' :=
 (Any.strings_Trim_laid Tryz.lays160 (by kernel_rfl) s ⟨#[32]⟩ w (by omega) (by decide) (ascii_of_all (by decide))).mono fun _ _ ⟨he, hb⟩ => ⟨he, hb⟩
theorem WR (s : ByteArray) (c : UInt8) (w : World) (hs : s.size ≤ 2000000) :
  Calls Tryz.prog 205 #[.string s, .string ⟨#[c]⟩] w fun e w' => e = .returned (.bool (Lib.hasSuffix s.data.toList [c])) ∧ w = w' :=
 (Tryz.strings_HasSuffix s ⟨#[c]⟩ w (by omega)).mono fun _ _ ⟨he, hw⟩ => ⟨he, hw.symm⟩
theorem zG {f : List UInt8 → List UInt8} (hf : ∀ p, (f p).length ≤ p.length) (sep : List UInt8) : ∀ l : List (List UInt8), (Lib.joinTail sep (l.map f)).length ≤ (Lib.joinTail sep l).length
 | [] => Nat.le_refl _
 | p :: r => by
  have h := zG hf sep r
  have := hf p
  have e1 : ∀ (a : List UInt8) (l : List (List UInt8)), Lib.joinTail sep (a :: l) = (sep ++ a) ++ Lib.joinTail sep l := fun a l => by simp [Lib.joinTail]
  rw [List.map_cons, e1, e1, List.length_append, List.length_append, List.length_append, List.length_append]
  omega
theorem join_le {f : List UInt8 → List UInt8} (hf : ∀ p, (f p).length ≤ p.length) (sep : List UInt8) : ∀ l : List (List UInt8), (Lib.join (l.map f) sep).length ≤ (Lib.join l sep).length
 | [] => Nat.le_refl _
 | p :: r => by
  have h := zG hf sep r
  have := hf p
  rw [List.map_cons, Lib.join_cons, Lib.join_cons, List.length_append, List.length_append]
  omega
theorem Em (u : List UInt8) : Lib.join (Lib.split u [44]) [44] = u := by
 obtain ⟨q, hq, hc, rfl⟩ := pieces u
 rw [lI hq hc]
theorem Ur (l : List UInt8) : (nH l).length ≤ l.length := by
 unfold nH
 exact Nat.le_trans (Lib.trimSuffix_le _ _) (Lib.trimPrefix_le _ _)
theorem Us (s : ByteArray) (w : World) (hs : s.size ≤ 4001) (htab : Tab w) (hm : Mx w) (he : Er w) :
  Calls Tryz.prog 191 #[.string s] w fun e w' => SV e w' w.heap.size (oM s.data.toList) ∧ Below w.heap.size w w' := by
 have HT := qh htab
 have HM := qh hm
 have HE := qh he
 clear htab hm he
 obtain ⟨i0, hi0, hz0, hz1, hz2⟩ := info_parts Xx
 have hil := Ur s.data.toList
 rw [ak] at hil
 go_enter Tryz.func191, Tryz.ntmps191
 go_upto_region 1 with (fail)
 obtain ⟨W, hW⟩ := au (w.alloc (.cells #[.int .i64 0, .int .i64 0, .string ⟨#[]⟩, .slice none 0 0] 24 (0, 0)))
 have hbw : Below w.heap.size w W := by rw [hW]; exact (Below.refl _ w).alloc (Nat.le_refl _) _
 have B0 : af W w.heap.size 24 #[.int .i64 0, .int .i64 0, .string ⟨#[]⟩, .slice none 0 0] := by rw [hW]; exact af.new w _ _
 have hWs : w.heap.size < W.heap.size := B0.lt
 rw [← hW]
 clear hW
 go_wp2_with fail
 refine (vF s ⟨#[123]⟩ W).mono ?_
 rintro e w1 ⟨⟨t1, rfl, ht1⟩, rfl⟩
 have hl1 : t1.size ≤ 4001 := by rw [fB ht1]; exact Nat.le_trans (Lib.trimPrefix_le _ _) (by rw [ak]; exact hs)
 have HT1 := qh ht1
 clear ht1
 go_wp2_with fail
 refine (Gx t1 ⟨#[125]⟩ W (by omega)).mono ?_
 rintro e w1 ⟨⟨t2, rfl, ht2⟩, rfl⟩
 have hin : t2.data.toList = nH s.data.toList := by rw [ht2, HT1.out]; rfl
 have hl2 : t2.size ≤ 4001 := by rw [fB hin]; omega
 have HIN := qh hin
 clear ht2 hin HT1
 go_wp2_with fail
 refine (vG t2 44 W (by omega) (HM.out.below hbw)).mono ?_
 rintro e w2 ⟨ps, rfl, hw2, hps, hpl⟩
 have hb1 : Below W.heap.size W w2 := hw2 ▸ (Below.refl _ W).alloc (Nat.le_refl _) _
 have hsz1 : w2.heap.size = W.heap.size + 1 := by rw [hw2]; simp
 have B2 : af w2 W.heap.size 9 (ps.map Value.string).toArray := hw2 ▸ af.new W _ _
 rw [HIN.out] at hps
 have ZC := qh (show ∀ p ∈ ps, p.size ≤ 4001 from fun p hp => by
  have h := Jw (nH s.data.toList) [44] p.data.toList (by rw [← hps]; exact List.mem_map.2 ⟨p, hp, rfl⟩)
  rw [ak] at h
  omega)
 have DK := qh hps
 have HJ := qh (show (Lib.join ((ps.map trimB).map (·.data.toList)) [44]).length ≤ 4001 by
  have h1 : (ps.map trimB).map (·.data.toList) = (ps.map (·.data.toList)).map (fun p => Lib.trimS p [32]) := by
   rw [List.map_map, List.map_map]
   refine List.map_congr_left fun p _ => ?_
   exact bT _
  rw [h1, hps]
  have h2 := join_le (f := fun p => Lib.trimS p [32]) (fun p => Jy p _) [44] (Lib.split (nH s.data.toList) [44])
  rw [Em] at h2
  omega)
 have hbw0 := qh hbw
 have B0 := B0.below hb1 B0.lt
 have hbw := hbw.trans (hb1.mono hbw.size)
 have hpm : ps.length ≤ 4002 := by omega
 have HB0 := qh B0
 have HB2 := qh B2
 have hg0 : w.heap.size < w2.heap.size := B0.lt
 have hg1 : W.heap.size < w2.heap.size := by omega
 clear hps hw2 hb1 hpl hsz1 B0 B2 hil
 go_wp2
 go_loopw [5, 14] (fun v i wr => ∃ k : Nat, k ≤ ps.length ∧ i = .int .i64 k ∧ Hid (af wr w.heap.size 24 #[.int .i64 0, .int .i64 0, .string ⟨#[]⟩, .slice none 0 0]) ∧ Hid (af wr W.heap.size 9 (ps.map Value.string).toArray) ∧ Hid (wr.ownsRow w2.heap.size 9 1 v k (JK (ps.take k))) ∧ Below w.heap.size w wr ∧ w2.heap.size ≤ wr.heap.size) (fun _ i _ => ps.length - (intOf i).toNat)
 case atStart => exact ⟨0, Nat.zero_le _, rfl, HB0, HB2, qh (World.ownsRow_nil _ _ _ _), hbw, Nat.le_refl _⟩
 case round =>
  obtain ⟨k, hk, rfl, B0, B2, HO, hbr, tV⟩ := hrel
  clear HB0 HB2
  by_cases hlt : k < ps.length
  ·
   obtain ⟨p, hp⟩ := ae (ps[k])
   have pc : wr.cell? ⟨W.heap.size, k, none⟩ = some (.string p) := by rw [B2.out.cell k]; simp [hlt, hp]
   have hpb := ZC.out p (by rw [← hp]; exact List.getElem_mem _)
   have HN := qh (show JK (ps.take (k + 1)) = JK (ps.take k) ++ [.string (trimB p)] by
    unfold JK
    rw [List.take_succ_eq_append_getElem hlt, hp, List.map_append, List.map_append]
    rfl)
   clear hp
   go_wp2_with fail
   refine (MG p wr (by omega)).mono ?_
   rintro e w3 ⟨rfl, hb3⟩
   have XG := own_below HO.out hb3
   have B0 := qh (B0.out.below hb3 B0.out.lt)
   have B2 := qh (B2.out.below hb3 B2.out.lt)
   have hbr := hbr.trans (hb3.mono hbr.size)
   have tV : w2.heap.size ≤ w3.heap.size := Nat.le_trans tV hb3.size
   have yH := qh (fun g hg => (XG.lt g hg).1)
   clear hb3 HO pc
   obtain ⟨q, hq⟩ := ae (trimB p)
   rw [hq] at HN ⊢
   clear hq
   go_wp2_with (at_builtin; refine wpList_append_own _ rfl _ _ 53 rfl w2.heap.size 9 i0 (.string ByteArray.empty) 1 16 Tryz.underlying53 hi0 hz0 hz1 hz2 rfl (by decide) _ _ _ rfl (XG.alloc _) ⟨w3.heap.size, 0, none⟩ 1 1 [.string q] rfl rfl ?c1 ?c2 ?c3 ?c4 ?c5 ?_)
   case c1 => intro j u hj; cases j <;> simp_all [go_sem]
   case c2 => intro u hu; simp only [List.mem_singleton] at hu; subst hu; rfl
   case c3 => unfold maxLen; omega
   case c4 => omega
   case c5 => simp; omega
   intro v2 w4 hown4 hg4 _
   have hs4 : w3.heap.size + 1 ≤ w4.heap.size := by have := hg4.size; simpa using this
   have B0' := qh ((B0.out.alloc _).grown hg4 (fun e => by have := yH.out _ e.symm; omega))
   have B2' := qh ((B2.out.alloc _).grown hg4 (fun e => by have := yH.out _ e.symm; omega))
   have hb4 : Below w.heap.size w w4 := (hbr.alloc (by omega) _).grown hg4 (by simp; omega) (fun g hg => by have := yH.out g hg; omega)
   have Jz := qh (show w4.ownsRow w2.heap.size 9 1 v2 (k + 1) (JK (ps.take (k + 1))) by rw [HN.out]; exact hown4)
   clear hown4 hg4 XG
   go_wp2
   go_roundw
   case rel => exact ⟨k + 1, by omega, by go_num, B0', B2', Jz, hb4, by omega⟩
   case measure => simp [intOf]; omega
  ·
   have HF := qh (show wr.ownsRow w2.heap.size 9 1 _ k ((ps.map trimB).map Value.string) by
    have h := HO.out
    rwa [List.take_of_length_le (by omega)] at h)
   have B0 := B0.out
   clear HO B2
   go_wp2_with fail
   refine (WR s 125 wr (by omega)).mono ?_
   obtain ⟨b, hb⟩ := ae (Lib.hasSuffix s.data.toList [125])
   have HB := qh hb
   rw [hb]
   clear hb
   rintro e w3 ⟨rfl, rfl⟩
   cases b
   ·
    have rD := qh (show oM s.data.toList = none by unfold oM; rw [HB.out]; rfl)
    obtain ⟨aQ, eX, aS, eY, aT, fD, aU, fE⟩ := af.z4 B0
    go_wp2
    obtain ⟨W9, dI, B9, di⟩ := bG B0 hbr (.int .i64 0) (.int .i64 0) (.string ⟨#[]⟩) (.slice none 0 0)
    rw [← dI]
    clear dI
    obtain ⟨iW, qc1, qc2, qc3⟩ := af.c4 B9
    refine bodyPost_ret (v := .tuple #[.agg #[.int .i64 0, .int .i64 0, .string ⟨#[]⟩, .slice none 0 0], .int .i64 10]) (by simp [results, Tryz.results191, go_sem, iW, qc1, qc2, qc3]) rfl ⟨⟨⟨⟨0, 0, ⟨#[]⟩, []⟩, none, 0, 10, rfl, Reads.none_, (fun _ h => by cases h), by simp, by decide, (fun h => absurd h (by decide)), (fun _ => rD.out)⟩⟩, di⟩
   ·
    have HHS := qh HB.out
    go_wp2_with fail
    refine (IG (ps.map trimB) ⟨#[44]⟩ wr HF.out (by simp; omega) (by have h := HJ.out; show (Lib.join _ [44]).length ≤ _; omega)).mono ?_
    rintro e w4 ⟨⟨t, rfl, ht⟩, hb4⟩
    have htl : t.size ≤ 4001 := by rw [fB ht]; exact HJ.out
    obtain ⟨u, hu⟩ : ∃ u : ByteArray, (⟨#[123]⟩ ++ t) ++ ⟨#[125]⟩ = u := ⟨_, rfl⟩
    have hud : u.data.toList = 123 :: (Lib.join ((ps.map trimB).map (·.data.toList)) [44] ++ [125]) := by
     rw [← hu, aC, aC, ht]
     rfl
    have qf := qh (show oM s.data.toList = fQ u.data.toList by
     unfold oM
     rw [HHS.out, if_pos rfl, hud, ← DK.out]
     have h1 : (ps.map trimB).map (·.data.toList) = (ps.map (·.data.toList)).map (fun p => Lib.trimS p [32]) := by
      rw [List.map_map, List.map_map]
      refine List.map_congr_left fun p _ => ?_
      exact bT _
     rw [h1])
    have wV : u.size ≤ 4010 := by
     have h1 : u.data.toList.length = u.size := ak u
     have h2 := HJ.out
     rw [hud] at h1
     simp only [List.length_cons, List.length_append, List.length_nil] at h1
     omega
    have HU := qh hu
    clear hud ht hu
    have B0 := B0.below hb4 B0.lt
    have hbr := hbr.trans (hb4.mono hbr.size)
    clear hb4
    go_wp2_with (rw [HU.out])
    refine (yO u w4 (by omega) (HT.out.below hbr) (HM.out.below hbr) (HE.out.below hbr)).mono ?_
    rintro e w5 ⟨Ij, hb5⟩
    obtain ⟨x, A, c, f, rfl, hrd, hA, hl, hs1, q1, q2⟩ := (SV.of Ij).ex
    have hA2 : ∀ ad, A = some ad → w.heap.size < ad.block := fun ad h => by have := hA ad h; have := B0.lt; omega
    have oI := qh (And.intro hrd hA2)
    have HQ := qh (And.intro q1 q2)
    rw [← qf.out] at HQ
    have B0 := B0.below hb5 B0.lt
    have hbr := hbr.trans (hb5.mono hbr.size)
    clear hrd hA q1 q2 hA2 Ij hb5
    obtain ⟨aQ, eX, aS, eY, aT, fD, aU, fE⟩ := af.z4 B0
    go_wp2
    obtain ⟨W9, dI, B9, di⟩ := bG B0 hbr (.int .i64 x.k) (.int .i64 x.n) (.string x.s) (.slice A x.l.length c)
    have Yu := qh (dI ▸ (((oI.out.1.apart oI.out.2 _).apart oI.out.2 _).apart oI.out.2 _).apart oI.out.2 _ : Reads W9 w5.heap.size 1 A x.l.length (dS .i64 x.l))
    have hs9 : w5.heap.size ≤ W9.heap.size := by rw [dI]; simp [World.setCell]
    rw [← dI]
    clear dI
    obtain ⟨iW, qc1, qc2, qc3⟩ := af.c4 B9
    refine bodyPost_ret (v := .tuple #[.agg #[.int .i64 x.k, .int .i64 x.n, .string x.s, .slice A x.l.length c], .int .i64 f]) (by simp [results, Tryz.results191, go_sem, iW, qc1, qc2, qc3]) rfl ⟨⟨⟨x, A, c, f, rfl, Yu.out.more hs9, (fun ad h => Nat.le_of_lt (oI.out.2 ad h)), hl, hs1, HQ.out.1, HQ.out.2⟩⟩, di⟩
end Go.Proofs.YtobanldeicclmaaGreatDoor
