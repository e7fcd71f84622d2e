/- Lemmas for the claim: walks and plain laws. -/
import Derived.Test.YtobanldeicclmaaGreatDoorZ16
import Derived.Test.YtobanldeicclmaaGreatDoorZ4
import Derived.Outline
import Derived.Test.YtobanldeicclmaaGreatDoorZ5
set_option maxHeartbeats 4000000
set_option maxRecDepth 100000
namespace Go.Proofs.YtobanldeicclmaaGreatDoor
open Go.RowKit Vtx
attribute [local go_sem ↓] Go.wp_at_zero Go.wp_at_succ
theorem LG (op : Int) (w : World) : Calls Tryz.prog 153 #[.int .i64 op] w fun e w' => e = .returned (.string (tx (iQ op))) ∧ Below w.heap.size w w' := by
 obtain ⟨t, ht⟩ := ae (tx (iQ op))
 rw [ht]
 unfold iQ at ht
 by_cases o4 : op = 4
 ·
  subst o4
  have HT := qh ht
  clear ht
  go_enter Tryz.func153, Tryz.ntmps153
  go_wp2
  go_ret
  exact ⟨by rw [← HT.out]; rfl, Below.refl _ _⟩
 rw [if_neg o4] at ht
 have b4 : (op == 4) = false := by simpa using o4
 clear o4
 by_cases o5 : op = 5
 ·
  subst o5
  have HT := qh ht
  clear ht
  go_enter Tryz.func153, Tryz.ntmps153
  go_wp2
  go_ret
  exact ⟨by rw [← HT.out]; rfl, Below.refl _ _⟩
 rw [if_neg o5] at ht
 have b5 : (op == 5) = false := by simpa using o5
 clear o5
 by_cases o6 : op = 6
 ·
  subst o6
  have HT := qh ht
  clear ht
  go_enter Tryz.func153, Tryz.ntmps153
  go_wp2
  go_ret
  exact ⟨by rw [← HT.out]; rfl, Below.refl _ _⟩
 rw [if_neg o6] at ht
 have b6 : (op == 6) = false := by simpa using o6
 clear o6
 by_cases o7 : op = 7
 ·
  subst o7
  have HT := qh ht
  clear ht
  go_enter Tryz.func153, Tryz.ntmps153
  go_wp2
  go_ret
  exact ⟨by rw [← HT.out]; rfl, Below.refl _ _⟩
 rw [if_neg o7] at ht
 have b7 : (op == 7) = false := by simpa using o7
 clear o7
 by_cases o8 : op = 8
 ·
  subst o8
  have HT := qh ht
  clear ht
  go_enter Tryz.func153, Tryz.ntmps153
  go_wp2
  go_ret
  exact ⟨by rw [← HT.out]; rfl, Below.refl _ _⟩
 rw [if_neg o8] at ht
 have b8 : (op == 8) = false := by simpa using o8
 clear o8
 by_cases o9 : op = 9
 ·
  subst o9
  have HT := qh ht
  clear ht
  go_enter Tryz.func153, Tryz.ntmps153
  go_wp2
  go_ret
  exact ⟨by rw [← HT.out]; rfl, Below.refl _ _⟩
 rw [if_neg o9] at ht
 have b9 : (op == 9) = false := by simpa using o9
 clear o9
 by_cases o10 : op = 10
 ·
  subst o10
  have HT := qh ht
  clear ht
  go_enter Tryz.func153, Tryz.ntmps153
  go_wp2
  go_ret
  exact ⟨by rw [← HT.out]; rfl, Below.refl _ _⟩
 rw [if_neg o10] at ht
 have b10 : (op == 10) = false := by simpa using o10
 clear o10
 by_cases o11 : op = 11
 ·
  subst o11
  have HT := qh ht
  clear ht
  go_enter Tryz.func153, Tryz.ntmps153
  go_wp2
  go_ret
  exact ⟨by rw [← HT.out]; rfl, Below.refl _ _⟩
 rw [if_neg o11] at ht
 have b11 : (op == 11) = false := by simpa using o11
 clear o11
 by_cases o15 : op = 15
 ·
  subst o15
  have HT := qh ht
  clear ht
  go_enter Tryz.func153, Tryz.ntmps153
  go_wp2
  go_ret
  exact ⟨by rw [← HT.out]; rfl, Below.refl _ _⟩
 rw [if_neg o15] at ht
 have b15 : (op == 15) = false := by simpa using o15
 clear o15
 by_cases o16 : op = 16
 ·
  subst o16
  have HT := qh ht
  clear ht
  go_enter Tryz.func153, Tryz.ntmps153
  go_wp2
  go_ret
  exact ⟨by rw [← HT.out]; rfl, Below.refl _ _⟩
 rw [if_neg o16] at ht
 have b16 : (op == 16) = false := by simpa using o16
 clear o16
 by_cases o17 : op = 17
 ·
  subst o17
  have HT := qh ht
  clear ht
  go_enter Tryz.func153, Tryz.ntmps153
  go_wp2
  go_ret
  exact ⟨by rw [← HT.out]; rfl, Below.refl _ _⟩
 rw [if_neg o17] at ht
 have b17 : (op == 17) = false := by simpa using o17
 clear o17
 by_cases o18 : op = 18
 ·
  subst o18
  have HT := qh ht
  clear ht
  go_enter Tryz.func153, Tryz.ntmps153
  go_wp2
  go_ret
  exact ⟨by rw [← HT.out]; rfl, Below.refl _ _⟩
 rw [if_neg o18] at ht
 have b18 : (op == 18) = false := by simpa using o18
 clear o18
 by_cases o19 : op = 19
 ·
  subst o19
  have HT := qh ht
  clear ht
  go_enter Tryz.func153, Tryz.ntmps153
  go_wp2
  go_ret
  exact ⟨by rw [← HT.out]; rfl, Below.refl _ _⟩
 rw [if_neg o19] at ht
 have b19 : (op == 19) = false := by simpa using o19
 clear o19
 have HT := qh ht
 clear ht
 go_enter Tryz.func153, Tryz.ntmps153
 go_wp2
 go_ret
 exact ⟨by rw [← HT.out]; rfl, Below.refl _ _⟩
def bY : List (List UInt8) := [[115, 117, 109], [99, 111, 117, 110, 116], [97, 110, 121], [97, 108, 108], [108, 101, 97, 115, 116], [109, 111, 115, 116]]
def qL : List (List UInt8) := [[97, 110, 115, 119, 101, 114, 101, 100], [97, 115, 107, 101, 100], [114, 101, 97, 115, 111, 110], [45], [45], [45], [45], [45], [45], [97, 98, 115], [102, 108, 111, 111, 114], [114, 111, 117, 110, 100], [109, 105, 110], [109, 97, 120], [105, 102], [101, 108, 115, 101], [115, 105, 122, 101], [99, 111, 100, 101], [108, 111, 119, 101, 114], [106, 111, 105, 110], [98, 101, 103, 105, 110, 115], [104, 111, 108, 100, 115], [121, 101, 97, 114], [109, 111, 110, 116, 104], [100, 97, 121], [100, 97, 121, 115], [97, 103, 101], [108, 97, 116, 101, 114]]
theorem Yy (a b : Int) (h : (a = 4 ∧ b = 11) ∨ (a = 15 ∧ b = 16) ∨ (a = 17 ∧ b = 19)) (t : Tok) (r : List Tok) {o : Int} (ha : a ≤ o) (hb : o ≤ b) (ho : iQ o = bH t) : bJ a b (t :: r) = o := by
 have hx : bH t ≠ [63] ∧ bH t ≠ [] := by
  rw [← ho]
  have h1 : o = 4 ∨ o = 5 ∨ o = 6 ∨ o = 7 ∨ o = 8 ∨ o = 9 ∨ o = 10 ∨ o = 11 ∨ o = 15 ∨ o = 16 ∨ o = 17 ∨ o = 18 ∨ o = 19 := by omega
  rcases h1 with rfl | rfl | rfl | rfl | rfl | rfl | rfl | rfl | rfl | rfl | rfl | rfl | rfl <;> decide
 have ht : t.touch = false ∧ bH t = t.tx := by
  unfold bH at hx ⊢
  cases htt : t.touch
  ·
   exact ⟨rfl, rfl⟩
  ·
   rw [htt, if_pos rfl] at hx; exact absurd rfl hx.1
 rw [ry, ht.1, ← ht.2, ← ho]
 have h1 : o = 4 ∨ o = 5 ∨ o = 6 ∨ o = 7 ∨ o = 8 ∨ o = 9 ∨ o = 10 ∨ o = 11 ∨ o = 15 ∨ o = 16 ∨ o = 17 ∨ o = 18 ∨ o = 19 := by omega
 clear hx ht ho
 rcases h with ⟨rfl, rfl⟩ | ⟨rfl, rfl⟩ | ⟨rfl, rfl⟩ <;> rcases h1 with rfl | rfl | rfl | rfl | rfl | rfl | rfl | rfl | rfl | rfl | rfl | rfl | rfl <;> first | decide | omega
theorem Wv (a b : Int) (t : Tok) (r : List Tok) (hn : ∀ o, a ≤ o → o ≤ b → iQ o ≠ bH t) : bJ a b (t :: r) = 0 := by
 rw [ry]
 unfold GI
 split
 ·
  rfl
 ·
  rw [List.find?_eq_none.2 (fun o _ => ?_)]
  rw [Bool.and_eq_true, Bool.and_eq_true, Bool.and_eq_true, decide_eq_true_iff, decide_eq_true_iff]
  rintro ⟨⟨⟨h1, h2⟩, -⟩, h3⟩
  unfold Ls at h3
  rw [Bool.and_eq_true, decide_eq_true_iff] at h3
  have ht : t.touch = false := by simpa using h3.1
  refine hn o h1 h2 ?_
  unfold bH
  rw [ht]
  exact h3.2.symm
theorem uU (x : List UInt8) (a b : Int) (w : World) (ha : 0 < a) (hab : a ≤ b) (hb : b ≤ 100) : Calls Tryz.prog 137 #[.string (tb x), .int .i64 a, .int .i64 b] w fun e w' => ∃ o : Int, e = .returned (.int .i64 o) ∧ ((a ≤ o ∧ o ≤ b ∧ iQ o = x) ∨ (o = 0 ∧ ∀ o', a ≤ o' → o' ≤ b → iQ o' ≠ x)) ∧ Below w.heap.size w w' := by
 obtain ⟨u, hu⟩ := ae (tb x)
 have HU := qh hu
 rw [hu]
 clear hu
 go_enter Tryz.func137, Tryz.ntmps137
 go_wp2_with fail
 go_loopw [7] (fun i wz => ∃ o : Int, a ≤ o ∧ o ≤ b + 1 ∧ i = .int .i64 o ∧ Hid (∀ o', a ≤ o' → o' < o → iQ o' ≠ x) ∧ Below w.heap.size w wz) (fun i _ => (b + 1 - intOf i).toNat)
 case atStart => exact ⟨a, Int.le_refl _, by omega, rfl, qh (fun o' h1 h2 => by omega), Below.refl _ _⟩
 case round =>
  obtain ⟨o, h1, h2, rfl, rD, hbr⟩ := hrel
  by_cases hob : o ≤ b
  ·
   have xW := qh hob
   go_wp2_with fail
   refine (LG o wr).mono ?_
   rintro e w1 ⟨rfl, hb1⟩
   have Ub := hbr.trans (hb1.mono hbr.size)
   obtain ⟨v, hv⟩ := ae (tx (iQ o))
   rw [hv]
   by_cases he : iQ o = x
   ·
    have bs : (v.toList == u.toList) = true := jg (by rw [← hv, ← HU.out, he]; rfl)
    have HE := qh he
    clear he hv
    go_wp2_with fail
    go_ret
    exact ⟨o, by rfl, .inl ⟨h1, xW.out, HE.out⟩, Ub⟩
   ·
    have bs : (v.toList == u.toList) = false := bZ (fun e => he (uK (by rw [HU.out, ← e, ← hv]; rfl)))
    have LH := qh (show ∀ o', a ≤ o' → o' < o + 1 → iQ o' ≠ x from fun o' k1 k2 => by
     by_cases e : o' = o
     ·
      subst e; exact he
     ·
      exact rD.out o' k1 (by omega))
    have hwr : IntKind.i64.wrap (o + 1) = o + 1 := IntWalk.i64_in _ (by omega)
    clear he hv
    go_wp2_with fail
    go_roundw
    case rel => exact ⟨o + 1, by omega, by have := xW.out; omega, by rfl, LH, Ub⟩
    case measure =>
     have := xW.out
     simp [intOf]
     omega
  ·
   have Yz := qh (show ∀ o', a ≤ o' → o' ≤ b → iQ o' ≠ x from fun o' k1 k2 => rD.out o' k1 (by omega))
   go_wp2_with fail
   go_ret
   exact ⟨0, by rfl, .inr ⟨rfl, Yz.out⟩, hbr⟩
theorem Uc (a b : Int) (hab : (a = 4 ∧ b = 11) ∨ (a = 15 ∧ b = 16) ∨ (a = 17 ∧ b = 19)) (g sz : Nat) (l : List Tok) (w : World) (h : pY w g sz l) (hl : ∀ t r, l = t :: r → bH t ≠ []) :
  Calls Tryz.prog 115 #[.pointer (some ⟨g, 0, none⟩), .int .i64 a, .int .i64 b] w fun e w' => e = .returned (.int .i64 (bJ a b l)) ∧ Kp g w w' ∧ pY w' g sz (if bJ a b l = 0 then l else l.tail) := by
 have HR := qh h
 have hlt := h.lt
 have kY := qh (fun W (hb : Below w.heap.size w W) => Cf g sz l W (HR.out.below hb))
 cases l with
 | nil =>
  have hs0 : bJ a b [] = 0 := by unfold bJ; rw [if_neg (by simp [kU]), List.find?_eq_none.2 (fun o _ => by simp [kU])]
  rw [hs0, if_pos rfl]
  have kY := qh (show ∀ W, Below w.heap.size w W → Calls Tryz.prog 17 #[.pointer (some ⟨g, 0, none⟩)] W fun e w' => e = .returned (.agg #[.string ⟨#[]⟩, .int .i64 (sz : Nat)]) ∧ Below W.heap.size W w' from kY.out)
  have YA := qh (fun W => uU [] a b W (by omega) (by omega) (by omega))
  rw [show tb [] = ⟨#[]⟩ from rfl] at YA
  clear h hs0 hl
  have hfd : ∀ W : World, (Instr.field 48 (.agg #[.string ⟨#[]⟩, .int .i64 (sz : Nat)]) 0).run Tryz.prog W = .ok (.string ⟨#[]⟩) W := fun _ => by kernel_rfl
  go_enter Tryz.func115, Tryz.ntmps115
  go_wp2_with fail
  refine (kY.out w (Below.refl _ _)).mono ?_
  rintro e w1 ⟨rfl, hb1⟩
  go_wp2_with fail
  refine (YA.out w1).mono ?_
  rintro e w2 ⟨o, rfl, -, hb2⟩
  have vV := hb1.trans (hb2.mono hb1.size)
  go_wp2_with fail
  refine (kY.out w2 vV).mono ?_
  rintro e w3 ⟨rfl, hb3⟩
  have hb := vV.trans (hb3.mono vV.size)
  go_wp2_with fail
  go_ret
  exact ⟨by rfl, Kp.of hb, HR.out.below hb⟩
 | cons t r =>
  obtain ⟨x, hx⟩ := ae (bH t)
  obtain ⟨v, hv⟩ := ae (tb x)
  have kY := qh (show ∀ W, Below w.heap.size w W → Calls Tryz.prog 17 #[.pointer (some ⟨g, 0, none⟩)] W fun e w' => e = .returned (.agg #[.string v, .int .i64 (t.at_ : Nat)]) ∧ Below W.heap.size W w' from fun W hb => by
   have h1 := kY.out W hb
   rwa [show pkV (pk sz (t :: r)) = .agg #[.string v, .int .i64 (t.at_ : Nat)] from by unfold pkV pk; rw [← hv, ← hx]] at h1)
  have YA := qh (fun W => hv ▸ uU x a b W (by omega) (by omega) (by omega))
  have qc := qh (fun o h1 h2 h3 => Yy a b hab t r (o := o) h1 h2 (by rw [hx]; exact h3))
  have HS0 := qh (fun hn => Wv a b t r (by rw [hx]; exact hn))
  have hne : x ≠ [] := by
   rw [← hx]
   exact hl t r rfl
  have hem : v.toList.isEmpty = false := by
   cases h : v.toList.isEmpty with
   | false => rfl
   | true =>
    have h1 : v.toList = [] := List.isEmpty_iff.1 h
    have h2 : (v.toList == (⟨#[]⟩ : ByteArray).toList) = true := by rw [h1]; simp
    have h3 : (v.toList == (⟨#[]⟩ : ByteArray).toList) = false := bZ (fun e => hne (uK (by rw [hv, e]; rfl)))
    rw [h3] at h2; cases h2
  obtain ⟨so, hso⟩ := ae (bJ a b (t :: r))
  obtain ⟨lo, hlo⟩ := ae ((if so = 0 then t :: r else (t :: r).tail))
  have HSO := qh hso
  have GM := qh hlo
  rw [hso, hlo]
  clear h hne hv hx hl hso hlo
  have hfd : ∀ W : World, (Instr.field 48 (.agg #[.string v, .int .i64 (t.at_ : Nat)]) 0).run Tryz.prog W = .ok (.string v) W := fun _ => by kernel_rfl
  go_enter Tryz.func115, Tryz.ntmps115
  go_wp2_with fail
  refine (kY.out w (Below.refl _ _)).mono ?_
  rintro e w1 ⟨rfl, hb1⟩
  go_wp2_with fail
  refine (YA.out w1).mono ?_
  rintro e w2 ⟨o, rfl, ho, hb2⟩
  have vV := hb1.trans (hb2.mono hb1.size)
  go_wp2_with fail
  refine (kY.out w2 vV).mono ?_
  rintro e w3 ⟨rfl, hb3⟩
  have hb := vV.trans (hb3.mono vV.size)
  rcases ho with ⟨h1, h2, h3⟩ | ⟨rfl, h0⟩
  ·
   have KE := qh (qc.out o h1 h2 h3)
   have ho0 : o ≠ 0 := by omega
   have bo : (o == 0) = false := by simp [ho0]
   have HR3 := qh (HR.out.below hb)
   obtain ⟨ad, c, hk, hc, -, -, -⟩ := HR3.out.head
   have HK := qh hk
   have c0 : w3.cell? ⟨g, 0, none⟩ = some (.slice (some ad) (r.length + 1) c) := hk.cell 0
   have z0 : w3.frozen? ⟨g, 0, none⟩ = false := hk.frozen 0
   have hsl := pO w3 ad r.length c hc
   have Vq := qh ho0
   have jW := qh (HR3.out.tail HK.out hc)
   have e1 : so = o := HSO.out.symm.trans KE.out
   have e2 : r = lo := by rw [← GM.out, e1, if_neg Vq.out]; rfl
   have E1 := qh e1
   have E2 := qh e2
   clear hk h3 ho0 e1 e2
   by_cases hc1 : c = 1
   ·
    subst hc1
    have jW := qh (show pY (w3.setCell ⟨g, 0, none⟩ (.slice (some ad) r.length 0)) g sz r from jW.out)
    go_wp2_with fail
    go_ret
    rw [E1.out, ← E2.out]
    exact ⟨by rfl, (Kp.of hb).set 0 _, jW.out⟩
   ·
    have jW := qh (show pY (w3.setCell ⟨g, 0, none⟩ (.slice (some ⟨ad.block, ad.off + 2, none⟩) r.length (c - 1))) g sz r from by have h := jW.out; rw [if_neg hc1] at h; exact h)
    go_wp2_with fail
    go_ret
    rw [E1.out, ← E2.out]
    exact ⟨by rfl, (Kp.of hb).set 0 _, jW.out⟩
  ·
   have KE := qh (HS0.out h0)
   clear h0
   go_wp2_with fail
   go_ret
   have e1 : so = 0 := HSO.out.symm.trans KE.out
   have e2 : t :: r = lo := by rw [← GM.out, e1, if_pos rfl]
   rw [e1, ← e2]
   exact ⟨by rfl, Kp.of hb, HR.out.below hb⟩
theorem LJ (o : Int) (ad : Addr) (c : Nat) (w : World) (k0 o0 k1 n1 : Int) (s0 s1 : ByteArray) (A1 A2 : Option Addr) (m1 c1 m2 c2 : Nat) (h : ∀ j u, #[.int .i64 k0, .int .i64 o0, .string s0, .int .i64 k1, .int .i64 n1, .string s1, .slice A1 m1 c1, .slice A2 m2 c2].toList[j]? = some u → w.cell? (ad.add j) = some u) :
  Calls Tryz.prog 38 #[.int .i64 o, .slice (some ad) 1 c] w fun e w' => e = .returned (.agg #[.int .i64 k0, .int .i64 o0, .string s0, .int .i64 k1, .int .i64 n1, .string s1, .slice A1 m1 c1, .slice A2 m2 c2]) ∧ Below w.heap.size w w' := by
 have h0 := h 0 _ rfl
 rw [uP] at h0
 have f0 : w.cell? ad = some (.int .i64 k0) := h0
 have f1 : w.cell? ⟨ad.block, ad.off + 1, none⟩ = some (.int .i64 o0) := h 1 _ rfl
 have f2 : w.cell? ⟨ad.block, ad.off + 2, none⟩ = some (.string s0) := h 2 _ rfl
 have f3 : w.cell? ⟨ad.block, ad.off + 3, none⟩ = some (.int .i64 k1) := h 3 _ rfl
 have f4 : w.cell? ⟨ad.block, ad.off + 4, none⟩ = some (.int .i64 n1) := h 4 _ rfl
 have f5 : w.cell? ⟨ad.block, ad.off + 5, none⟩ = some (.string s1) := h 5 _ rfl
 have f6 : w.cell? ⟨ad.block, ad.off + 6, none⟩ = some (.slice A1 m1 c1) := h 6 _ rfl
 have f7 : w.cell? ⟨ad.block, ad.off + 7, none⟩ = some (.slice A2 m2 c2) := h 7 _ rfl
 clear h h0
 go_enter Tryz.func38, Tryz.ntmps38
 go_upto_region 1 with (fail)
 obtain ⟨W, hW, -, BR, -, -, hbW⟩ := dY 0 w
 have e0 : W.cell? ad = some (.int .i64 k0) := Below.cell_of hbW f0
 have e1 : W.cell? ⟨ad.block, ad.off + 1, none⟩ = some (.int .i64 o0) := Below.cell_of hbW f1
 have e2 : W.cell? ⟨ad.block, ad.off + 2, none⟩ = some (.string s0) := Below.cell_of hbW f2
 have e3 : W.cell? ⟨ad.block, ad.off + 3, none⟩ = some (.int .i64 k1) := Below.cell_of hbW f3
 have e4 : W.cell? ⟨ad.block, ad.off + 4, none⟩ = some (.int .i64 n1) := Below.cell_of hbW f4
 have e5 : W.cell? ⟨ad.block, ad.off + 5, none⟩ = some (.string s1) := Below.cell_of hbW f5
 have e6 : W.cell? ⟨ad.block, ad.off + 6, none⟩ = some (.slice A1 m1 c1) := Below.cell_of hbW f6
 have e7 : W.cell? ⟨ad.block, ad.off + 7, none⟩ = some (.slice A2 m2 c2) := Below.cell_of hbW f7
 obtain ⟨aQ, eX, aS, eY, aT, fD, aU, fE, aY, jR, aZ, jS, bu, jT, bz, jU⟩ := af.z8 BR
 rw [← hW]
 clear hW BR f0 f1 f2 f3 f4 f5 f6 f7
 go_wp2_with fail
 refine bodyPost_ret (v := .agg #[.int .i64 k0, .int .i64 o0, .string s0, .int .i64 k1, .int .i64 n1, .string s1, .slice A1 m1 c1, .slice A2 m2 c2]) (by simp [results, Tryz.results38, go_sem, aQ, aS, aT, aU, aY, aZ, bu, bz]) rfl ⟨rfl, ?_⟩
 exact (((((((hbW.setCell (p := ⟨w.heap.size, 0, none⟩) (Nat.le_refl _) _).setCell (p := ⟨w.heap.size, 1, none⟩) (Nat.le_refl _) _).setCell (p := ⟨w.heap.size, 2, none⟩) (Nat.le_refl _) _).setCell (p := ⟨w.heap.size, 3, none⟩) (Nat.le_refl _) _).setCell (p := ⟨w.heap.size, 4, none⟩) (Nat.le_refl _) _).setCell (p := ⟨w.heap.size, 5, none⟩) (Nat.le_refl _) _).setCell (p := ⟨w.heap.size, 6, none⟩) (Nat.le_refl _) _).setCell (p := ⟨w.heap.size, 7, none⟩) (Nat.le_refl _) _
theorem Js (o : Int) (A : Option Addr) (n c : Nat) (w : World) (hn : 2 ≤ n) :
  Calls Tryz.prog 38 #[.int .i64 o, .slice A n c] w fun e w' => e = .returned (.agg #[.int .i64 4, .int .i64 o, .string ⟨#[]⟩, .int .i64 0, .int .i64 0, .string ⟨#[]⟩, .slice none 0 0, .slice A n c]) ∧ Below w.heap.size w w' := by
 have bn : (((n : Nat) : Int) == 1) = false := by simp; omega
 have ZG : (n == 1) = false := by simp; omega
 go_enter Tryz.func38, Tryz.ntmps38
 go_upto_region 1 with (fail)
 obtain ⟨W, hW, -, BR, -, -, hbW⟩ := dY 0 w
 rw [← hW]
 clear hW
 go_wp2_with fail
 refine (oO o A n c W).mono ?_
 rintro e w1 ⟨rfl, hb1⟩
 have B1 := BR.below hb1 BR.lt
 have hbw := hbW.trans (hb1.mono hbW.size)
 obtain ⟨aQ, eX, aS, eY, aT, fD, aU, fE, aY, jR, aZ, jS, bu, jT, bz, jU⟩ := af.z8 B1
 go_wp2_with fail
 refine bodyPost_ret (v := .agg #[.int .i64 4, .int .i64 o, .string ⟨#[]⟩, .int .i64 0, .int .i64 0, .string ⟨#[]⟩, .slice none 0 0, .slice A n c]) (by simp [results, Tryz.results38, go_sem, aQ, aS, aT, aU, aY, aZ, bu, bz]) rfl ⟨rfl, ?_⟩
 exact (((((((hbw.setCell (p := ⟨w.heap.size, 0, none⟩) (Nat.le_refl _) _).setCell (p := ⟨w.heap.size, 1, none⟩) (Nat.le_refl _) _).setCell (p := ⟨w.heap.size, 2, none⟩) (Nat.le_refl _) _).setCell (p := ⟨w.heap.size, 3, none⟩) (Nat.le_refl _) _).setCell (p := ⟨w.heap.size, 4, none⟩) (Nat.le_refl _) _).setCell (p := ⟨w.heap.size, 5, none⟩) (Nat.le_refl _) _).setCell (p := ⟨w.heap.size, 6, none⟩) (Nat.le_refl _) _).setCell (p := ⟨w.heap.size, 7, none⟩) (Nat.le_refl _) _
end Go.Proofs.YtobanldeicclmaaGreatDoor
namespace Go.Proofs.YtobanldeicclmaaGreatDoor
open Go.RowKit Dig Vtx
theorem adb (k : Nat) : Lib.repeatL [48] k = zeros k := by
 induction k with
 | zero => rfl
 | succ k ih => rw [Lib.repeatL, ih]; rfl
theorem Cm (k : Nat) (w : World) (hk : k ≤ 1000) :
  Calls Tryz.prog 215 #[.string ⟨#[48]⟩, .int .i64 (k : Nat)] w fun e w' => (∃ t : ByteArray, e = .returned (.string t) ∧ t.data.toList = zeros k) ∧ Below w.heap.size w w' :=
 (Tryz.strings_Repeat ⟨#[48]⟩ k w (by omega) (by show 1 * k ≤ _; omega)).mono fun _ _ ⟨he, hb⟩ => ⟨⟨_, he, by rw [show (⟨#[48]⟩ : ByteArray).data.toList = [48] from rfl, adb]⟩, hb⟩
theorem sS (n : Int) (W : Nat) (w : World) (h0 : 0 ≤ n) (h1 : n ≤ 9223372036854775807) (hW : W ≤ 20) (htab : Tab w) :
  Calls Tryz.prog 201 #[.int .i64 n, .int .i64 (W : Nat)] w fun e w' => (∃ t : ByteArray, e = .returned (.string t) ∧ t.data.toList = iO W n) ∧ Below w.heap.size w w' := by
 have HT := qh htab
 clear htab
 go_enter Tryz.func201, Tryz.ntmps201
 go_wp2_with fail
 refine (mO n w (by omega) h1 HT.out).mono ?_
 rintro e w1 ⟨⟨t0, rfl, ht0⟩, hb1⟩
 have hsz : t0.size ≤ 20 := by
  rw [fB ht0]
  obtain ⟨m, rfl⟩ : ∃ m : Nat, n = m := ⟨n.toNat, by omega⟩
  rw [jd]
  have := cO 18 m (by omega)
  omega
 have HP := qh (show iO W n = zeros (W - t0.size) ++ t0.data.toList by unfold iO; rw [ht0, fB ht0])
 clear ht0
 go_wp2_with fail
 rw [show max ((W : Int) - t0.size) 0 = ((W - t0.size : Nat) : Int) from by omega]
 refine (Cm _ w1 (by omega)).mono ?_
 rintro e w2 ⟨⟨z, rfl, hz⟩, hb2⟩
 have HZ := qh hz
 have hbw := hb1.trans (hb2.mono hb1.size)
 have hzl : z.size ≤ 20 := by rw [fB hz]; simp [zeros]; omega
 clear hz hb1 hb2
 go_wp2
 go_ret
 exact ⟨⟨_, rfl, by rw [HP.out, aC, HZ.out]⟩, hbw⟩
theorem Jt (n : Int) (w : World) (h1 : -999999999999999 ≤ n) (h2 : n ≤ 999999999999999) (htab : Tab w) :
  Calls Tryz.prog 199 #[.int .i64 n] w fun e w' => (∃ t : ByteArray, e = .returned (.string t) ∧ t.data.toList = mJ n) ∧ Below w.heap.size w w' := by
 have HT := qh htab
 clear htab
 obtain ⟨a, ha⟩ := ae (mZ n)
 have hab : 0 ≤ a ∧ a ≤ 999999999999999 := by rw [← ha]; unfold mZ; split <;> omega
 obtain ⟨ha0, ha1⟩ := hab
 obtain ⟨F, hF⟩ := ae (a / 10000)
 obtain ⟨M, hM⟩ := ae (a % 10000)
 have hF0 : 0 ≤ F := by omega
 have hF1 : F ≤ 99999999999 := by omega
 have hM0 : 0 ≤ M := by omega
 have hM1 : M < 10000 := by omega
 have HN := qh (show mJ n = (if n < 0 then [45] else []) ++ Lib.itoa F ++ (if fG M = [] then [] else 46 :: fG M) by unfold mJ; rw [ha, hF, hM])
 have HI := qh (show (Lib.itoa F).length ≤ 11 by
  obtain ⟨m, rfl⟩ : ∃ m : Nat, F = m := ⟨F.toNat, by omega⟩
  rw [jd]
  exact cO 10 m (by omega))
 have Si := qh (show (iO 4 M).length = 4 ∧ (fG M).length ≤ 4 ∧ (fG M = [] ↔ M = 0) by
  obtain ⟨m, rfl⟩ : ∃ m : Nat, M = m := ⟨M.toNat, by omega⟩
  refine ⟨jG (cO 3 m (by omega)), (uD (by omega)).2, ?_⟩
  rw [RH (by omega)]; omega)
 have HA := qh ha
 have Xw := qh hF
 have HMD := qh hM
 clear ha hF hM
 go_enter Tryz.func199, Tryz.ntmps199
 go_upto_if 6 with (fail)
 go_cut [0, 3] (fun v s wx => v = .int .i64 a ∧ (∃ sg : ByteArray, s = .string sg ∧ Hid (sg.data.toList = if n < 0 then [45] else []) ∧ sg.size ≤ 1) ∧ wx = w)
 case first =>
  by_cases hn : n < 0
  ·
   have hx := qh (show a = -n by rw [← HA.out]; unfold mZ; rw [if_pos hn])
   go_wp2_with (fail)
   go_meet
   exact ⟨by rw [hx.out], ⟨_, rfl, qh (by rw [if_pos (by omega)]), by decide⟩, rfl⟩
  ·
   have hx := qh (show a = n by rw [← HA.out]; unfold mZ; rw [if_neg hn])
   go_wp2_with (fail)
   go_meet
   exact ⟨by rw [hx.out], ⟨_, rfl, qh (by rw [if_neg (by omega)]), by decide⟩, rfl⟩
 case rest =>
 obtain ⟨rfl, ⟨sg, rfl, HS, hsg⟩, rfl⟩ := hcut
 have eF : a / 10000 = F := Xw.out
 have eM : a % 10000 = M := HMD.out
 go_wp2_with fail
 refine (mO F _ (by omega) (by omega) HT.out).mono ?_
 rintro e w1 ⟨⟨tf, rfl, htf⟩, hb1⟩
 have htl : tf.size ≤ 11 := by rw [fB htf]; exact HI.out
 have wU := qh htf
 have HT1 := qh (HT.out.below hb1)
 clear htf
 by_cases h0 : M = 0
 ·
  have HE := qh (Si.out.2.2.2 h0)
  subst h0
  go_wp2
  go_ret
  exact ⟨⟨_, rfl, by rw [HN.out, aC, HS.out, wU.out, if_pos HE.out, List.append_nil]⟩, hb1⟩
 have HE := qh (show fG M ≠ [] from fun e => h0 (Si.out.2.2.1 e))
 go_wp2_with fail
 refine (sS M 4 w1 hM0 (by omega) (by omega) HT1.out).mono ?_
 rintro e w2 ⟨⟨tm, rfl, Yb⟩, hb2⟩
 have html : tm.size ≤ 4 := by rw [fB Yb, Si.out.1]; exact Nat.le_refl _
 have DJ := qh Yb
 have hbw := hb1.trans (hb2.mono hb1.size)
 clear Yb hb1 hb2
 go_wp2_with fail
 refine (zi tm w2 (by omega)).mono ?_
 rintro e w3 ⟨⟨u, rfl, hu⟩, rfl⟩
 rw [DJ.out] at hu
 have wV : u.size ≤ 4 := by rw [fB hu]; exact Si.out.2.1
 have HU := qh (show u.data.toList = fG M from hu)
 clear hu
 go_wp2
 go_ret
 exact ⟨⟨_, rfl, by rw [HN.out, aC, aC, aC, HS.out, wU.out, if_neg HE.out, HU.out]; simp⟩, hbw⟩
theorem CB (n : Int) (w : World) (h1 : 1 ≤ n) (h2 : n ≤ 3) :
  Calls Tryz.prog 192 #[.int .i64 n] w fun e w' => e = .returned (.string ⟨(qm n).toArray⟩) ∧ w = w' := by
 obtain rfl | rfl | rfl : n = 1 ∨ n = 2 ∨ n = 3 := by omega
 all_goals
  go_enter Tryz.func192, Tryz.ntmps192
  go_wp2
  go_ret
  exact ⟨rfl, rfl⟩
theorem D8 (sep : List UInt8) (r : List (List UInt8)) (p : List UInt8) : Lib.joinTail sep (r ++ [p]) = Lib.joinTail sep r ++ (sep ++ p) := by simp [Lib.joinTail]
theorem PO (ps : List (List UInt8)) (p : List UInt8) (sep : List UInt8) : Lib.join (ps ++ [p]) sep = Lib.join ps sep ++ (if ps = [] then [] else sep) ++ p := by
 cases ps with
 | nil => simp [Lib.join_nil, Lib.join_one]
 | cons a r => rw [List.cons_append, Lib.join_cons, Lib.join_cons, D8]; simp
def D9 (l : List Int) (k : Nat) : List UInt8 := 123 :: Lib.join ((l.take k).map dh) [44]
theorem PQ {l : List Int} {k : Nat} (h : k < l.length) : D9 l (k + 1) = D9 l k ++ (if k = 0 then [] else [44]) ++ dh l[k] := by
 unfold D9
 rw [List.take_succ_eq_append_getElem h, List.map_append, List.map_cons, List.map_nil, PO]
 have e : ((l.take k).map dh = []) ↔ k = 0 := by
  rw [List.map_eq_nil_iff, List.take_eq_nil_iff]
  constructor
  ·
   rintro (h0 | h0)
   ·
    exact h0
   ·
    subst h0; simp at h
  ·
   exact Or.inl
 by_cases hk : k = 0
 ·
  rw [if_pos (e.2 hk), if_pos hk]; simp
 ·
  rw [if_neg (fun h => hk (e.1 h)), if_neg hk]; simp
theorem Ud {l : List Int} {k : Nat} (h : l.length ≤ k) : D9 l k ++ [125] = kW l := by
 unfold D9 kW
 rw [List.take_of_length_le h]
theorem yN {x : Int} (h1 : 1 ≤ x) (h2 : x ≤ 999) : (Lib.itoa x).length ≤ 3 := by
 obtain ⟨m, rfl⟩ : ∃ m : Nat, x = m := ⟨x.toNat, by omega⟩
 rw [jd]
 exact cO 2 m (by omega)
def RS (w : World) (S : List UInt8) (e : Ending) (w' : World) : Prop := (∃ t : ByteArray, e = .returned (.tuple #[.string t, .int .i64 0]) ∧ t.data.toList = S) ∧ Below w.heap.size w w'
theorem PR (k n : Int) (s : ByteArray) (l : List Int) (S : List UInt8) (A : Option Addr) (c B1 : Nat) (w : World) (hS : s.data.toList = S) (hq : KL k n S l) (hck : aV ⟨k, n, s, l⟩ = 0) (hl : l.length ≤ 40) (hs : s.size ≤ 200)
  (hx : Reads w w.heap.size 1 A l.length (dS .i64 l)) (htab : Tab w) (hm : Mx w) :
  Calls Tryz.prog 180 #[.agg #[.int .i64 k, .int .i64 n, .string s, .slice A l.length c]] w (RS w (showT k n S l)) := by
 have HT := qh htab
 have HM := qh hm
 have HX := qh hx
 have HS := qh hS
 have PS := qh hck
 clear htab hm hx hS hck
 cases hq with
 | none_ =>
  have HK := qh (fun w' h1 h2 => iL ⟨0, 0, s, ([] : List Int)⟩ A c w.heap.size w' (by show (([] : List Int) : List Int).length ≤ _; unfold maxLen; first | omega | (simp; done)) (by show (s : ByteArray).size ≤ _; unfold maxLen; omega) h1 h2)
  go_enter Tryz.func180, Tryz.ntmps180
  go_wp2_with fail
  obtain ⟨W, hW⟩ := au ((w.alloc (.cells #[.int .i64 0, .int .i64 0, .string s, .slice A 0 c] 24 (0, 0))))
  have hbw : Below w.heap.size w W := by rw [hW]; exact ((Below.refl _ w).alloc (Nat.le_refl _) _)
  have B0 : af W (w.heap.size) 24 #[.int .i64 0, .int .i64 0, .string s, .slice A 0 c] := by
   rw [hW]
   have := af.new w 24 #[.int .i64 0, .int .i64 0, .string s, .slice A 0 c]
   exact this
  have hsz : W.heap.size = w.heap.size + 1 := by rw [hW]; simp
  rw [← hW]
  clear hW hsz
  refine (HK.out W (HX.out.below hbw) hbw.size).mono ?_
  rintro e w1 ⟨rfl, hb1⟩
  rw [PS.out]
  have B0 := B0.below hb1 B0.lt
  have hbw := hbw.trans (hb1.mono hbw.size)
  clear hb1 HK
  obtain ⟨rf, ug, uh, sH⟩ := af.c4 B0
  go_wp2
  go_ret2
  exact ⟨⟨_, rfl, rfl⟩, hbw⟩
 | word h1 h2 =>
  have HK := qh (fun w' h1 h2 => iL ⟨1, n, s, ([] : List Int)⟩ A c w.heap.size w' (by show (([] : List Int) : List Int).length ≤ _; unfold maxLen; first | omega | (simp; done)) (by show (s : ByteArray).size ≤ _; unfold maxLen; omega) h1 h2)
  go_enter Tryz.func180, Tryz.ntmps180
  go_wp2_with fail
  obtain ⟨W, hW⟩ := au ((w.alloc (.cells #[.int .i64 1, .int .i64 n, .string s, .slice A 0 c] 24 (0, 0))))
  have hbw : Below w.heap.size w W := by rw [hW]; exact ((Below.refl _ w).alloc (Nat.le_refl _) _)
  have B0 : af W (w.heap.size) 24 #[.int .i64 1, .int .i64 n, .string s, .slice A 0 c] := by
   rw [hW]
   have := af.new w 24 #[.int .i64 1, .int .i64 n, .string s, .slice A 0 c]
   exact this
  have hsz : W.heap.size = w.heap.size + 1 := by rw [hW]; simp
  rw [← hW]
  clear hW hsz
  refine (HK.out W (HX.out.below hbw) hbw.size).mono ?_
  rintro e w1 ⟨rfl, hb1⟩
  rw [PS.out]
  have B0 := B0.below hb1 B0.lt
  have hbw := hbw.trans (hb1.mono hbw.size)
  clear hb1 HK
  obtain ⟨rf, ug, uh, sH⟩ := af.c4 B0
  go_wp2_with fail
  refine (CB n _ h1 h2).mono ?_
  rintro e w2 ⟨rfl, rfl⟩
  go_wp2
  go_ret2
  exact ⟨⟨_, rfl, rfl⟩, hbw⟩
 | num h1 h2 =>
  have HR := qh (fun w' => Jt n w' h1 h2)
  have HK := qh (fun w' h1 h2 => iL ⟨2, n, s, ([] : List Int)⟩ A c w.heap.size w' (by show (([] : List Int) : List Int).length ≤ _; unfold maxLen; first | omega | (simp; done)) (by show (s : ByteArray).size ≤ _; unfold maxLen; omega) h1 h2)
  go_enter Tryz.func180, Tryz.ntmps180
  go_wp2_with fail
  obtain ⟨W, hW⟩ := au ((w.alloc (.cells #[.int .i64 2, .int .i64 n, .string s, .slice A 0 c] 24 (0, 0))))
  have hbw : Below w.heap.size w W := by rw [hW]; exact ((Below.refl _ w).alloc (Nat.le_refl _) _)
  have B0 : af W (w.heap.size) 24 #[.int .i64 2, .int .i64 n, .string s, .slice A 0 c] := by
   rw [hW]
   have := af.new w 24 #[.int .i64 2, .int .i64 n, .string s, .slice A 0 c]
   exact this
  have hsz : W.heap.size = w.heap.size + 1 := by rw [hW]; simp
  rw [← hW]
  clear hW hsz
  refine (HK.out W (HX.out.below hbw) hbw.size).mono ?_
  rintro e w1 ⟨rfl, hb1⟩
  rw [PS.out]
  have B0 := B0.below hb1 B0.lt
  have hbw := hbw.trans (hb1.mono hbw.size)
  clear hb1 HK
  obtain ⟨rf, ug, uh, sH⟩ := af.c4 B0
  go_wp2_with fail
  refine (HR.out _ (HT.out.below hbw)).mono ?_
  rintro e w2 ⟨⟨t, rfl, ht⟩, hb⟩
  have hbw := hbw.trans (hb.mono hbw.size)
  have jf := qh ht
  clear ht hb
  go_wp2
  go_ret2
  exact ⟨⟨_, rfl, jf.out⟩, hbw⟩
 | text S =>
  have HK := qh (fun w' h1 h2 => iL ⟨3, 0, s, ([] : List Int)⟩ A c w.heap.size w' (by show (([] : List Int) : List Int).length ≤ _; unfold maxLen; first | omega | (simp; done)) (by show (s : ByteArray).size ≤ _; unfold maxLen; omega) h1 h2)
  go_enter Tryz.func180, Tryz.ntmps180
  go_wp2_with fail
  obtain ⟨W, hW⟩ := au ((w.alloc (.cells #[.int .i64 3, .int .i64 0, .string s, .slice A 0 c] 24 (0, 0))))
  have hbw : Below w.heap.size w W := by rw [hW]; exact ((Below.refl _ w).alloc (Nat.le_refl _) _)
  have B0 : af W (w.heap.size) 24 #[.int .i64 3, .int .i64 0, .string s, .slice A 0 c] := by
   rw [hW]
   have := af.new w 24 #[.int .i64 3, .int .i64 0, .string s, .slice A 0 c]
   exact this
  have hsz : W.heap.size = w.heap.size + 1 := by rw [hW]; simp
  rw [← hW]
  clear hW hsz
  refine (HK.out W (HX.out.below hbw) hbw.size).mono ?_
  rintro e w1 ⟨rfl, hb1⟩
  rw [PS.out]
  have B0 := B0.below hb1 B0.lt
  have hbw := hbw.trans (hb1.mono hbw.size)
  clear hb1 HK
  obtain ⟨rf, ug, uh, sH⟩ := af.c4 B0
  go_wp2_with fail
  refine (mP s ⟨#[39]⟩ ⟨#[39, 39]⟩ _ (by omega) (Nat.le_refl 1) (Nat.le_refl 2) (HM.out.below hbw)).mono ?_
  rintro e w2 ⟨⟨t, rfl, ht⟩, hb⟩
  rw [HS.out] at ht
  have hbw := hbw.trans (hb.mono hbw.size)
  have jf := qh (show t.data.toList = Lib.replaceAll S [39] [39, 39] from ht)
  have htl : t.size ≤ 2000 := by
   rw [fB jf.out]
   have h1 := NJ S
   have h2 : S.length = s.size := by rw [← HS.out]; rfl
   omega
  clear ht hb
  go_wp2
  go_ret2
  exact ⟨⟨_, rfl, by rw [aC, aC, jf.out]; rfl⟩, hbw⟩
 | code h1 h2 =>
  have HK := qh (fun w' h1 h2 => iL ⟨4, n, s, ([] : List Int)⟩ A c w.heap.size w' (by show (([] : List Int) : List Int).length ≤ _; unfold maxLen; first | omega | (simp; done)) (by show (s : ByteArray).size ≤ _; unfold maxLen; omega) h1 h2)
  go_enter Tryz.func180, Tryz.ntmps180
  go_wp2_with fail
  obtain ⟨W, hW⟩ := au ((w.alloc (.cells #[.int .i64 4, .int .i64 n, .string s, .slice A 0 c] 24 (0, 0))))
  have hbw : Below w.heap.size w W := by rw [hW]; exact ((Below.refl _ w).alloc (Nat.le_refl _) _)
  have B0 : af W (w.heap.size) 24 #[.int .i64 4, .int .i64 n, .string s, .slice A 0 c] := by
   rw [hW]
   have := af.new w 24 #[.int .i64 4, .int .i64 n, .string s, .slice A 0 c]
   exact this
  have hsz : W.heap.size = w.heap.size + 1 := by rw [hW]; simp
  rw [← hW]
  clear hW hsz
  refine (HK.out W (HX.out.below hbw) hbw.size).mono ?_
  rintro e w1 ⟨rfl, hb1⟩
  rw [PS.out]
  have B0 := B0.below hb1 B0.lt
  have hbw := hbw.trans (hb1.mono hbw.size)
  clear hb1 HK
  obtain ⟨rf, ug, uh, sH⟩ := af.c4 B0
  go_wp2_with fail
  refine (mO n _ (by omega) (by omega) (HT.out.below hbw)).mono ?_
  rintro e w2 ⟨⟨t, rfl, ht⟩, hb⟩
  have hbw := hbw.trans (hb.mono hbw.size)
  have jf := qh ht
  have htl : t.size ≤ 20 := by rw [fB ht]; have := yN h1 h2; omega
  clear ht hb
  go_wp2
  go_ret2
  exact ⟨⟨_, rfl, by rw [aC, jf.out]; rfl⟩, hbw⟩
 | set h =>
  have HC := qh h
  clear h
  have HK := qh (fun w' h1 h2 => iL ⟨5, 0, s, l⟩ A c w.heap.size w' (by show (l : List Int).length ≤ _; unfold maxLen; first | omega | (simp; done)) (by show (s : ByteArray).size ≤ _; unfold maxLen; omega) h1 h2)
  go_enter Tryz.func180, Tryz.ntmps180
  go_wp2_with fail
  obtain ⟨W, hW⟩ := au ((w.alloc (.cells #[.int .i64 5, .int .i64 0, .string s, .slice A l.length c] 24 (0, 0))))
  have hbw : Below w.heap.size w W := by rw [hW]; exact ((Below.refl _ w).alloc (Nat.le_refl _) _)
  have B0 : af W (w.heap.size) 24 #[.int .i64 5, .int .i64 0, .string s, .slice A l.length c] := by
   rw [hW]
   have := af.new w 24 #[.int .i64 5, .int .i64 0, .string s, .slice A l.length c]
   exact this
  have hsz : W.heap.size = w.heap.size + 1 := by rw [hW]; simp
  rw [← hW]
  clear hW hsz
  refine (HK.out W (HX.out.below hbw) hbw.size).mono ?_
  rintro e w1 ⟨rfl, hb1⟩
  rw [PS.out]
  have B0 := B0.below hb1 B0.lt
  have hbw := hbw.trans (hb1.mono hbw.size)
  clear hb1 HK
  obtain ⟨rf, ug, uh, sH⟩ := af.c4 B0
  go_wp2
  go_loopw [5, 6, 7, 47] (fun v u6 u7 i wr => ∃ (k : Nat) (t : ByteArray), k ≤ l.length ∧ i = .int .i64 k ∧ v = .string t ∧ Hid (t.data.toList = D9 l k) ∧ t.size ≤ 1 + 5 * k ∧ Below w.heap.size w wr) (fun _ _ _ i _ => l.length - (intOf i).toNat)
  case atStart => exact ⟨0, _, Nat.zero_le _, rfl, rfl, qh rfl, Nat.le_refl _, hbw⟩
  case round =>
   obtain ⟨k, t, hk, rfl, rfl, jf, htl, hbr⟩ := hrel
   have tV := hbr.size
   by_cases hlt : k < l.length
   ·
    obtain ⟨ad, u, rfl, hb, hu, hcell⟩ := (HX.out.below hbr).at_ hlt
    obtain ⟨hkl, rfl⟩ := kZ _ _ _ _ hu
    obtain ⟨x, hx⟩ := ae (l[k])
    have ZX := HC.out l[k] (List.getElem_mem hkl)
    rw [hx] at ZX hcell
    obtain ⟨hx1, hx2⟩ := ZX
    have HK := qh (PQ hkl)
    rw [hx] at HK
    have HT1 := qh (HT.out.below hbr)
    clear hu hx
    by_cases h0 : k = 0
    ·
     have HK0 := qh (show D9 l 1 = D9 l 0 ++ dh x by have h := HK.out; rw [h0] at h; simpa using h)
     subst h0
     have hc0 : wr.cell? ad = some (.int .i64 x) := by have h := hcell; simp only [Addr.add, if_true] at h; exact h
     go_wp2_with fail
     refine (mO x wr (by omega) (by omega) HT1.out).mono ?_
     rintro e w2 ⟨⟨t2, rfl, ht2⟩, hb2⟩
     have Ya : t2.size ≤ 3 := by rw [fB ht2]; exact yN hx1 hx2
     have HT2 := qh ht2
     have Gh := hbr.trans (hb2.mono tV)
     clear ht2 hb2 hcell HK hc0
     go_wp2
     go_roundw
     case rel => exact ⟨1, _, by omega, rfl, rfl, qh (by rw [aC, aC, jf.out, HT2.out, HK0.out]; rfl), by rw [ByteArray.size_append, ByteArray.size_append]; show _ + (1 + _) ≤ _; omega, Gh⟩
     case measure => simp [intOf]; omega
    ·
     have HK0 := qh (show D9 l (k + 1) = D9 l k ++ [44] ++ dh x by have h := HK.out; rwa [if_neg h0] at h)
     have hk1 : 0 < k := by omega
     clear h0
     go_wp2_with fail
     refine (mO x wr (by omega) (by omega) HT1.out).mono ?_
     rintro e w2 ⟨⟨t2, rfl, ht2⟩, hb2⟩
     have Ya : t2.size ≤ 3 := by rw [fB ht2]; exact yN hx1 hx2
     have HT2 := qh ht2
     have Gh := hbr.trans (hb2.mono tV)
     clear ht2 hb2 hcell HK
     go_wp2
     go_roundw
     case rel => exact ⟨k + 1, _, by omega, by go_num, rfl, qh (by rw [aC, aC, aC, jf.out, HT2.out, HK0.out]; rfl), by rw [ByteArray.size_append, ByteArray.size_append, ByteArray.size_append]; show _ + 1 + (1 + _) ≤ _; omega, Gh⟩
     case measure => simp [intOf]; omega
   ·
    have HF := qh (Ud (l := l) (k := k) (by omega))
    go_wp2
    go_ret2
    exact ⟨⟨_, rfl, by rw [aC, jf.out]; exact HF.out⟩, hbr⟩
 | day h1 h2 =>
  obtain ⟨y, m, d, ey, em, ed, hy, hmm, hd, hok, hn⟩ := qV h1 h2
  have HY := qh (And.intro ey (And.intro em ed))
  have HL := qh (And.intro (jG (w := 4) (n := y) (cO 3 y hy)) (And.intro (jG (w := 2) (n := m) (cO 1 m hmm)) (jG (w := 2) (n := d) (cO 1 d hd))))
  have HCV := qh (fun w' => OQ n w' h1 h2)
  clear ey em ed hok hn
  have HK := qh (fun w' h1 h2 => iL ⟨6, n, s, ([] : List Int)⟩ A c w.heap.size w' (by show (([] : List Int) : List Int).length ≤ _; unfold maxLen; first | omega | (simp; done)) (by show (s : ByteArray).size ≤ _; unfold maxLen; omega) h1 h2)
  go_enter Tryz.func180, Tryz.ntmps180
  go_wp2_with fail
  obtain ⟨W, hW⟩ := au ((w.alloc (.cells #[.int .i64 6, .int .i64 n, .string s, .slice A 0 c] 24 (0, 0))))
  have hbw : Below w.heap.size w W := by rw [hW]; exact ((Below.refl _ w).alloc (Nat.le_refl _) _)
  have B0 : af W (w.heap.size) 24 #[.int .i64 6, .int .i64 n, .string s, .slice A 0 c] := by
   rw [hW]
   have := af.new w 24 #[.int .i64 6, .int .i64 n, .string s, .slice A 0 c]
   exact this
  have hsz : W.heap.size = w.heap.size + 1 := by rw [hW]; simp
  rw [← hW]
  clear hW hsz
  refine (HK.out W (HX.out.below hbw) hbw.size).mono ?_
  rintro e w1 ⟨rfl, hb1⟩
  rw [PS.out]
  have B0 := B0.below hb1 B0.lt
  have hbw := hbw.trans (hb1.mono hbw.size)
  clear hb1 HK
  obtain ⟨rf, ug, uh, sH⟩ := af.c4 B0
  go_wp2_with fail
  refine (HCV.out _).mono ?_
  rw [HY.out.1, HY.out.2.1, HY.out.2.2]
  rintro e w2 ⟨rfl, rfl⟩
  go_wp2_with fail
  refine (sS y 4 _ (by omega) (by omega) (by omega) (HT.out.below hbw)).mono ?_
  rintro e w2 ⟨⟨t1, rfl, ht1⟩, hb1⟩
  have hbw := hbw.trans (hb1.mono hbw.size)
  have HT1 := qh ht1
  have hl1 : t1.size ≤ 4 := by rw [fB ht1, HL.out.1]; exact Nat.le_refl _
  clear ht1 hb1 rf ug uh sH
  go_wp2_with fail
  refine (sS m 2 w2 (by omega) (by omega) (by omega) (HT.out.below hbw)).mono ?_
  rintro e w3 ⟨⟨t2, rfl, ht2⟩, hb2⟩
  have hbw := hbw.trans (hb2.mono hbw.size)
  have HT2 := qh ht2
  have hl2 : t2.size ≤ 2 := by rw [fB ht2, HL.out.2.1]; exact Nat.le_refl _
  clear ht2 hb2
  go_wp2_with fail
  refine (sS d 2 w3 (by omega) (by omega) (by omega) (HT.out.below hbw)).mono ?_
  rintro e w4 ⟨⟨t3, rfl, ht3⟩, hb3⟩
  have hbw := hbw.trans (hb3.mono hbw.size)
  have HT3 := qh ht3
  have hl3 : t3.size ≤ 2 := by rw [fB ht3, HL.out.2.2]; exact Nat.le_refl _
  clear ht3 hb3
  go_wp2
  go_ret2
  exact ⟨⟨_, rfl, by
   rw [aC, aC, aC, aC, aC, HT1.out, HT2.out, HT3.out]
   show _ = jB n
   unfold jB
   rw [HY.out.1, HY.out.2.1, HY.out.2.2]
   rfl⟩, hbw⟩
 | bool h1 h2 =>
  obtain rfl | rfl : n = 0 ∨ n = 1 := by omega
  ·
   have HK := qh (fun w' h1 h2 => iL ⟨7, 0, s, ([] : List Int)⟩ A c w.heap.size w' (by show (([] : List Int) : List Int).length ≤ _; unfold maxLen; first | omega | (simp; done)) (by show (s : ByteArray).size ≤ _; unfold maxLen; omega) h1 h2)
   go_enter Tryz.func180, Tryz.ntmps180
   go_wp2_with fail
   obtain ⟨W, hW⟩ := au ((w.alloc (.cells #[.int .i64 7, .int .i64 0, .string s, .slice A 0 c] 24 (0, 0))))
   have hbw : Below w.heap.size w W := by rw [hW]; exact ((Below.refl _ w).alloc (Nat.le_refl _) _)
   have B0 : af W (w.heap.size) 24 #[.int .i64 7, .int .i64 0, .string s, .slice A 0 c] := by
    rw [hW]
    have := af.new w 24 #[.int .i64 7, .int .i64 0, .string s, .slice A 0 c]
    exact this
   have hsz : W.heap.size = w.heap.size + 1 := by rw [hW]; simp
   rw [← hW]
   clear hW hsz
   refine (HK.out W (HX.out.below hbw) hbw.size).mono ?_
   rintro e w1 ⟨rfl, hb1⟩
   rw [PS.out]
   have B0 := B0.below hb1 B0.lt
   have hbw := hbw.trans (hb1.mono hbw.size)
   clear hb1 HK
   obtain ⟨rf, ug, uh, sH⟩ := af.c4 B0
   go_wp2_with fail
   refine (Tryz.strconv_FormatBool false _).mono ?_
   rintro e w2 ⟨rfl, rfl⟩
   go_wp2
   go_ret2
   exact ⟨⟨_, rfl, rfl⟩, hbw⟩
  ·
   have HK := qh (fun w' h1 h2 => iL ⟨7, 1, s, ([] : List Int)⟩ A c w.heap.size w' (by show (([] : List Int) : List Int).length ≤ _; unfold maxLen; first | omega | (simp; done)) (by show (s : ByteArray).size ≤ _; unfold maxLen; omega) h1 h2)
   go_enter Tryz.func180, Tryz.ntmps180
   go_wp2_with fail
   obtain ⟨W, hW⟩ := au ((w.alloc (.cells #[.int .i64 7, .int .i64 1, .string s, .slice A 0 c] 24 (0, 0))))
   have hbw : Below w.heap.size w W := by rw [hW]; exact ((Below.refl _ w).alloc (Nat.le_refl _) _)
   have B0 : af W (w.heap.size) 24 #[.int .i64 7, .int .i64 1, .string s, .slice A 0 c] := by
    rw [hW]
    have := af.new w 24 #[.int .i64 7, .int .i64 1, .string s, .slice A 0 c]
    exact this
   have hsz : W.heap.size = w.heap.size + 1 := by rw [hW]; simp
   rw [← hW]
   clear hW hsz
   refine (HK.out W (HX.out.below hbw) hbw.size).mono ?_
   rintro e w1 ⟨rfl, hb1⟩
   rw [PS.out]
   have B0 := B0.below hb1 B0.lt
   have hbw := hbw.trans (hb1.mono hbw.size)
   clear hb1 HK
   obtain ⟨rf, ug, uh, sH⟩ := af.c4 B0
   go_wp2_with fail
   refine (Tryz.strconv_FormatBool true _).mono ?_
   rintro e w2 ⟨rfl, rfl⟩
   go_wp2
   go_ret2
   exact ⟨⟨_, rfl, rfl⟩, hbw⟩
end Go.Proofs.YtobanldeicclmaaGreatDoor
