/- Lemmas for the claim: walks and plain laws. -/
import Derived.Test.YtobanldeicclmaaGreatDoorZ19
import Derived.Test.YtobanldeicclmaaGreatDoorZ12
import Derived.Deep.DrawnRows
import Derived.Test.YtobanldeicclmaaGreatDoorZ38
import Derived.Test.YtobanldeicclmaaGreatDoorCards
import Derived.Test.YtobanldeicclmaaGreatDoorTie
import Derived.WalkKit
import Derived.ProofKit
import Derived.OpenShut
import Derived.Deep.DeepHandedRow
import Derived.Deep.DeepLaidRun
import Derived.Lib.LaidTab
import Derived.Stop.LaidErr
import Derived.Lib.SmallJoins
import Derived.PinnedBridge
import Derived.Shelf.Vars
import Derived.Test.YtobanldeicclmaaGreatDoorRows
set_option maxHeartbeats 4000000
set_option maxRecDepth 100000
namespace Go.Proofs.YtobanldeicclmaaGreatDoor
open Go.RowKit
attribute [local go_sem ↓] Go.wp_at_zero Go.wp_at_succ
def X6 (e : Ex) : Prop := ∀ (B1 B2 : Nat) (cs1 cs2 : List Value) (w : World), lK w B1 e cs1 → lK w B2 e cs2 → B1 ≤ w.heap.size → B2 ≤ w.heap.size → Calls Tryz.prog 7 #[.agg cs1.toArray, .agg cs2.toArray] w fun en w' => en = .returned (.bool true) ∧ Below w.heap.size w w'
theorem QR (e : Ex) (ih : ∀ a ∈ e.ar, X6 a) (B1 B2 : Nat) (cs1 cs2 : List Value) (A2 A4 : Option Addr) (c2 c4 : Nat) (w : World) (hl : e.ar.length ≤ maxLen) (hr1 : Reads w B1 8 A2 e.ar.length cs1) (hi1 : ∀ i (h : i < e.ar.length), lK w B1 e.ar[i] ((cs1.drop (i * 8)).take 8)) (hr2 : Reads w B2 8 A4 e.ar.length cs2) (hi2 : ∀ i (h : i < e.ar.length), lK w B2 e.ar[i] ((cs2.drop (i * 8)).take 8)) (hB1 : B1 ≤ w.heap.size) (hB2 : B2 ≤ w.heap.size) :
  Calls Tryz.prog 13 #[.slice A2 e.ar.length c2, .slice A4 e.ar.length c4, .func (.func 7) #[] #[]] w fun en w' => en = .returned (.bool true) ∧ Below w.heap.size w w' := by
 have HR1 := qh (And.intro hr1 hi1)
 have HR2 := qh (And.intro hr2 hi2)
 have HI := qh ih
 have hstart : Below w.heap.size w w := Below.refl _ _
 unfold maxLen at hl
 clear hr1 hi1 hr2 hi2 ih
 go_enter Tryz.func13, Tryz.ntmps13
 go_wp2_with fail
 go_loopw [17, 7, 8, 9] (fun i _ _ _ wz => ∃ k : Nat, k ≤ e.ar.length ∧ i = .int .i64 k ∧ Below w.heap.size w wz) (fun i _ _ _ _ => e.ar.length - (intOf i).toNat)
 case atStart => exact ⟨0, Nat.zero_le _, rfl, hstart⟩
 case round =>
  obtain ⟨k, hk, rfl, hbr⟩ := hrel
  have tV := hbr.size
  have Ub := hbr.mono hB1
  have Gh := hbr.mono hB2
  by_cases hlt : k < e.ar.length
  ·
   obtain ⟨ad, ci, rfl, hb, hci, hcell⟩ := lK.arg (HR1.out.1.below Ub) (fun i h => (HR1.out.2 i h).keep Ub) hlt
   obtain ⟨KH, ci2, rfl, hb2, G7, hcell2⟩ := lK.arg (HR2.out.1.below Gh) (fun i h => (HR2.out.2 i h).keep Gh) hlt
   obtain ⟨a, hea⟩ := ae (e.ar[k])
   have ham : a ∈ e.ar := by rw [← hea]; exact List.getElem_mem hlt
   rw [hea] at hci G7
   have HS := qh (fun w' h1 h2 h3 h4 => HI.out a ham B1 B2 ci ci2 w' h1 h2 h3 h4)
   have VR := qh hci
   have ae0 := qh G7
   have GG : ((k : Nat) : Int) < ((e.ar.length : Nat) : Int) := by omega
   obtain ⟨hn1, hs1, hl1, ha1, hx1, hr1, hi1⟩ := hci
   rename_i A5 c5 A6 c6 csA
   obtain ⟨hn2, hs2, hl2, ha2, hx2, hr2, hi2⟩ := G7
   rename_i A7 c7 A8 c8 csB
   have Ib : wr.cell? (ad.add (k * 8)) = some (.int .i64 a.k) := hcell 0 _ rfl
   have KA : wr.cell? ⟨(ad.add (k * 8)).block, (ad.add (k * 8)).off + 1, none⟩ = some (.int .i64 a.op) := hcell 1 _ rfl
   have QW : wr.cell? ⟨(ad.add (k * 8)).block, (ad.add (k * 8)).off + 2, none⟩ = some (.string a.nm) := hcell 2 _ rfl
   have QX : wr.cell? ⟨(ad.add (k * 8)).block, (ad.add (k * 8)).off + 3, none⟩ = some (.int .i64 a.v.k) := hcell 3 _ rfl
   have QY : wr.cell? ⟨(ad.add (k * 8)).block, (ad.add (k * 8)).off + 4, none⟩ = some (.int .i64 a.v.n) := hcell 4 _ rfl
   have QZ : wr.cell? ⟨(ad.add (k * 8)).block, (ad.add (k * 8)).off + 5, none⟩ = some (.string a.v.s) := hcell 5 _ rfl
   have Q3 : wr.cell? ⟨(ad.add (k * 8)).block, (ad.add (k * 8)).off + 6, none⟩ = some (.slice A5 a.v.l.length c5) := hcell 6 _ rfl
   have Q4 : wr.cell? ⟨(ad.add (k * 8)).block, (ad.add (k * 8)).off + 7, none⟩ = some (.slice A6 a.ar.length c6) := hcell 7 _ rfl
   have HC2 := qh hcell2
   have fO := qh hlt
   clear hx1 hr1 hi1 hx2 hr2 hi2 hcell hcell2 hea ham hb
   go_upto_region 6 with (fail)
   obtain ⟨W1, hW1⟩ := au (wr.alloc (.cells #[.int .i64 a.k, .int .i64 a.op, .string a.nm, .int .i64 a.v.k, .int .i64 a.v.n, .string a.v.s, .slice A5 a.v.l.length c5, .slice A6 a.ar.length c6] 27 (0, 0)))
   have hb1 : Below wr.heap.size wr W1 := hW1 ▸ (Below.refl _ wr).alloc (Nat.le_refl _) _
   have BA : af W1 wr.heap.size 27 #[.int .i64 a.k, .int .i64 a.op, .string a.nm, .int .i64 a.v.k, .int .i64 a.v.n, .string a.v.s, .slice A5 a.v.l.length c5, .slice A6 a.ar.length c6] := hW1 ▸ af.new wr _ _
   rw [← hW1]
   clear hW1 Ib KA QW QX QY QZ Q3 Q4
   have hcell2 : ∀ j u, _ → W1.cell? ((KH.add (k * 8)).add j) = some u := fun j u hu => Below.cell_of hb1 (HC2.out j u hu)
   have gc0 : W1.cell? (KH.add (k * 8)) = some (.int .i64 a.k) := hcell2 0 _ rfl
   have gc1 : W1.cell? ⟨(KH.add (k * 8)).block, (KH.add (k * 8)).off + 1, none⟩ = some (.int .i64 a.op) := hcell2 1 _ rfl
   have gc2 : W1.cell? ⟨(KH.add (k * 8)).block, (KH.add (k * 8)).off + 2, none⟩ = some (.string a.nm) := hcell2 2 _ rfl
   have gc3 : W1.cell? ⟨(KH.add (k * 8)).block, (KH.add (k * 8)).off + 3, none⟩ = some (.int .i64 a.v.k) := hcell2 3 _ rfl
   have gc4 : W1.cell? ⟨(KH.add (k * 8)).block, (KH.add (k * 8)).off + 4, none⟩ = some (.int .i64 a.v.n) := hcell2 4 _ rfl
   have gc5 : W1.cell? ⟨(KH.add (k * 8)).block, (KH.add (k * 8)).off + 5, none⟩ = some (.string a.v.s) := hcell2 5 _ rfl
   have gc6 : W1.cell? ⟨(KH.add (k * 8)).block, (KH.add (k * 8)).off + 6, none⟩ = some (.slice A7 a.v.l.length c7) := hcell2 6 _ rfl
   have gc7 : W1.cell? ⟨(KH.add (k * 8)).block, (KH.add (k * 8)).off + 7, none⟩ = some (.slice A8 a.ar.length c8) := hcell2 7 _ rfl
   clear hcell2
   go_upto_region 7 with (fail)
   obtain ⟨W2, hW2⟩ := au (W1.alloc (.cells #[.int .i64 a.k, .int .i64 a.op, .string a.nm, .int .i64 a.v.k, .int .i64 a.v.n, .string a.v.s, .slice A7 a.v.l.length c7, .slice A8 a.ar.length c8] 27 (0, 0)))
   have hb2' : Below W1.heap.size W1 W2 := hW2 ▸ (Below.refl _ W1).alloc (Nat.le_refl _) _
   have BB : af W2 W1.heap.size 27 #[.int .i64 a.k, .int .i64 a.op, .string a.nm, .int .i64 a.v.k, .int .i64 a.v.n, .string a.v.s, .slice A7 a.v.l.length c7, .slice A8 a.ar.length c8] := hW2 ▸ af.new W1 _ _
   have ZQ := BA.below hb2' BA.lt
   rw [← hW2]
   clear hW2 gc0 gc1 gc2 gc3 gc4 gc5 gc6 gc7 BA
   have hbw2 : Below w.heap.size w W2 := (hbr.trans (hb1.mono tV)).trans (hb2'.mono (Nat.le_trans tV hb1.size))
   have hbk : Below wr.heap.size wr W2 := hb1.trans (hb2'.mono hb1.size)
   obtain ⟨XL, TN, TP, XM, XN, XO, XP, XQ⟩ := af.c8 ZQ
   obtain ⟨CJ, CO, Ea, Eb, Ec, Ed, Ee, Ef⟩ := af.c8 BB
   clear ZQ BB hb1 hb2'
   go_wp2_with fail
   refine (HS.out W2 (VR.out.keep (hbk.mono (Nat.le_trans hB1 tV))) (ae0.out.keep (hbk.mono (Nat.le_trans hB2 tV))) (Nat.le_trans hB1 hbw2.size) (Nat.le_trans hB2 hbw2.size)).mono ?_
   rintro en w3 ⟨rfl, hb3⟩
   have hbw3 := hbw2.trans (hb3.mono hbw2.size)
   clear hb3 hbk hbw2 XL TN TP XM XN XO XP XQ CJ CO Ea Eb Ec Ed Ee Ef
   go_wp2_with fail
   go_roundw
   case rel => exact ⟨k + 1, fO.out, by go_num, hbw3⟩
   case measure =>
    have := fO.out
    simp [intOf]
    omega
  ·
   have GG : ¬ ((k : Nat) : Int) < ((e.ar.length : Nat) : Int) := by omega
   go_wp2_with fail
   go_ret
   exact ⟨by rfl, hbr⟩
theorem Ns (x : Val) : uu x x = true := by simp [uu]
theorem QS (e : Ex) : X6 e := by
 induction e using Ex.ind with
 | h e ih =>
  intro B1 B2 cs1 cs2 w hx1 hx2 hB1 hB2
  obtain ⟨hn1, hs1, hl1, ha1, hx1, hr1, hi1⟩ := hx1
  rename_i A1 c1 A2 c2 csA
  obtain ⟨hn2, hs2, hl2, ha2, hx2, hr2, hi2⟩ := hx2
  rename_i A3 c3 A4 c4 csB
  have HE := qh (fun w' (hb : Below w.heap.size w w') => QR e ih B1 B2 csA csB A2 A4 c2 c4 w' ha1 (hr1.below (hb.mono hB1)) (fun i h => (hi1 i h).keep (hb.mono hB1)) (hr2.below (hb.mono hB2)) (fun i h => (hi2 i h).keep (hb.mono hB2)) (Nat.le_trans hB1 hb.size) (Nat.le_trans hB2 hb.size))
  have HSM := qh (fun w' (hb : Below w.heap.size w w') => Ui e.v e.v A1 A3 c1 c3 B1 B2 w' hl1 hl1 (hx1.below (hb.mono hB1)) (hx2.below (hb.mono hB2)) (Nat.le_trans hB1 hb.size) (Nat.le_trans hB2 hb.size))
  rw [Ns] at HSM
  clear hx1 hr1 hi1 hx2 hr2 hi2 ih
  show Calls Tryz.prog 7 #[.agg #[.int .i64 e.k, .int .i64 e.op, .string e.nm, .int .i64 e.v.k, .int .i64 e.v.n, .string e.v.s, .slice A1 e.v.l.length c1, .slice A2 e.ar.length c2], .agg #[.int .i64 e.k, .int .i64 e.op, .string e.nm, .int .i64 e.v.k, .int .i64 e.v.n, .string e.v.s, .slice A3 e.v.l.length c3, .slice A4 e.ar.length c4]] w _
  go_enter Tryz.func7, Tryz.ntmps7
  go_upto_region 1 with (fail)
  obtain ⟨W1, hW1⟩ := au (w.alloc (.cells #[.int .i64 e.k, .int .i64 e.op, .string e.nm, .int .i64 e.v.k, .int .i64 e.v.n, .string e.v.s, .slice A1 e.v.l.length c1, .slice A2 e.ar.length c2] 27 (0, 0)))
  obtain ⟨W2, hW2⟩ := au (W1.alloc (.cells #[.int .i64 e.k, .int .i64 e.op, .string e.nm, .int .i64 e.v.k, .int .i64 e.v.n, .string e.v.s, .slice A3 e.v.l.length c3, .slice A4 e.ar.length c4] 27 (0, 0)))
  have hsz1 : W1.heap.size = w.heap.size + 1 := by rw [hW1]; simp
  have BA : af W2 w.heap.size 27 #[.int .i64 e.k, .int .i64 e.op, .string e.nm, .int .i64 e.v.k, .int .i64 e.v.n, .string e.v.s, .slice A1 e.v.l.length c1, .slice A2 e.ar.length c2] := by rw [hW2, hW1]; exact (af.new w _ _).alloc _
  have BB : af W2 (w.heap.size + 1) 27 #[.int .i64 e.k, .int .i64 e.op, .string e.nm, .int .i64 e.v.k, .int .i64 e.v.n, .string e.v.s, .slice A3 e.v.l.length c3, .slice A4 e.ar.length c4] := by rw [hW2, ← hsz1]; exact af.new W1 _ _
  have hbw : Below w.heap.size w W2 := by rw [hW2, hW1]; exact ((Below.refl _ w).alloc (Nat.le_refl _) _).alloc (by simp) _
  rw [← hW1, ← hW2]
  clear hW1 hW2
  obtain ⟨XL, TN, TP, XM, XN, XO, XP, XQ⟩ := af.c8 BA
  obtain ⟨CJ, CO, Ea, Eb, Ec, Ed, Ee, Ef⟩ := af.c8 BB
  go_wp2_with fail
  refine (HSM.out W2 hbw).mono ?_
  rintro en w3 ⟨rfl, hb3⟩
  have hbw3 := hbw.trans (hb3.mono hbw.size)
  have BA3 := BA.below hb3 BA.lt
  have BB3 := BB.below hb3 BB.lt
  clear XL TN TP XM XN XO XP XQ CJ CO Ea Eb Ec Ed Ee Ef BA BB hb3 hbw
  obtain ⟨XL, TN, TP, XM, XN, XO, XP, XQ⟩ := af.c8 BA3
  obtain ⟨CJ, CO, Ea, Eb, Ec, Ed, Ee, Ef⟩ := af.c8 BB3
  go_wp2_with fail
  refine (HE.out w3 hbw3).mono ?_
  rintro en w4 ⟨rfl, hb4⟩
  go_wp2_with fail
  go_ret
  exact ⟨by rfl, hbw3.trans (hb4.mono hbw3.size)⟩
end Go.Proofs.YtobanldeicclmaaGreatDoor
namespace Go.Proofs.YtobanldeicclmaaGreatDoor
open Go.RowKit Vtx
attribute [local go_sem ↓] Go.wp_at_zero Go.wp_at_succ
theorem KZ (s : ByteArray) (w : World) (hsm : s.size ≤ maxLen) (htab : Tab w) (hm : Mx w) (he : Er w) (hsp : Sp w) :
  Calls Tryz.prog 4 #[.string s] w fun en w' => en = .returned (.bool true) ∧ Below w.heap.size w w' := by
 have DJ := qh (show Tab w ∧ Mx w ∧ Er w ∧ Sp w from ⟨htab, hm, he, hsp⟩)
 have Zy : ∀ x, Pz s.data.toList.length .or [] (wordsOf s.data.toList 0) = .ok [x] [] → s.size ≤ 4000 → x.parts ≤ 100000 := fun x h hs => Nr (by rw [ak]; exact hs) h
 have HA := qh (show ∀ W, Below w.heap.size w W → Calls Tryz.prog 6 #[.string s] W fun e w' => Ku W (nI s.data.toList) e w' from fun W hb => QO s W hsm (DJ.out.1.below hb) (DJ.out.2.1.below hb) (fun hs x h => by have := Zy x h hs; omega))
 have HB := qh (show ∀ W, Below w.heap.size w W → Calls Tryz.prog 8 #[.string s] W fun e w' => Ku W (nI s.data.toList) e w' from fun W hb => Nq s W hsm (DJ.out.1.below hb) (DJ.out.2.1.below hb) (DJ.out.2.2.1.below hb) (bD DJ.out.2.2.2 hb) (fun hs x h => by have := Zy x h hs; omega))
 obtain ⟨p, hp⟩ := ae (nI s.data.toList)
 obtain ⟨x, a, f⟩ := p
 rw [hp] at HA HB
 clear htab hm he hsp Zy hp
 go_enter Tryz.func4, Tryz.ntmps4
 go_wp2_with fail
 refine (HA.out w (Below.refl _ w)).mono ?_
 rintro en w1 ⟨A1, c1, A2, c2, rfl, hin1, hb1⟩
 have HI1 := qh hin1
 rw [show (ai x A1 c1 A2 c2).toArray = #[.int .i64 x.k, .int .i64 x.op, .string x.nm, .int .i64 x.v.k, .int .i64 x.v.n, .string x.v.s, .slice A1 x.v.l.length c1, .slice A2 x.ar.length c2] from rfl]
 clear hin1
 go_upto_region 2 with (fail)
 obtain ⟨W1, hW1⟩ := au (w1.alloc (.cells #[.int .i64 x.k, .int .i64 x.op, .string x.nm, .int .i64 x.v.k, .int .i64 x.v.n, .string x.v.s, .slice A1 x.v.l.length c1, .slice A2 x.ar.length c2] 27 (0, 0)))
 have yZ : Below w.heap.size w W1 := by rw [hW1]; exact hb1.alloc hb1.size _
 have Zz : Below w1.heap.size w1 W1 := hW1 ▸ (Below.refl _ w1).alloc (Nat.le_refl _) _
 have abQ := qh (show af W1 w1.heap.size 27 #[.int .i64 x.k, .int .i64 x.op, .string x.nm, .int .i64 x.v.k, .int .i64 x.v.n, .string x.v.s, .slice A1 x.v.l.length c1, .slice A2 x.ar.length c2] by rw [hW1]; exact af.new w1 _ _)
 have xn := qh (show dK W1 (fun b => w.heap.size ≤ b) W1.heap.size x (ai x A1 c1 A2 c2) from (HI1.out.keep (dG.of Zz)).up Zz.size)
 have hsz1 : W1.heap.size = w1.heap.size + 1 := by rw [hW1]; simp
 rw [← hW1]
 clear hW1 Zz hb1
 go_wp2_with fail
 refine (HB.out W1 yZ).mono ?_
 rintro en w2 ⟨A3, c3, A4, c4, rfl, hin2, hb2⟩
 have HI2 := qh hin2
 rw [show (ai x A3 c3 A4 c4).toArray = #[.int .i64 x.k, .int .i64 x.op, .string x.nm, .int .i64 x.v.k, .int .i64 x.v.n, .string x.v.s, .slice A3 x.v.l.length c3, .slice A4 x.ar.length c4] from rfl]
 have hbw2 := yZ.trans (hb2.mono yZ.size)
 have QP := qh (abQ.out.below hb2 abQ.out.lt)
 have Ii := qh ((xn.out.keep (dG.of hb2)).up hb2.size)
 have hsz2 := hb2.size
 clear hin2 hb2
 go_upto_region 3 with (fail)
 obtain ⟨W2, hW2⟩ := au (w2.alloc (.cells #[.int .i64 x.k, .int .i64 x.op, .string x.nm, .int .i64 x.v.k, .int .i64 x.v.n, .string x.v.s, .slice A3 x.v.l.length c3, .slice A4 x.ar.length c4] 27 (0, 0)))
 have hb3 : Below w2.heap.size w2 W2 := hW2 ▸ (Below.refl _ w2).alloc (Nat.le_refl _) _
 have BK : af W2 w2.heap.size 27 #[.int .i64 x.k, .int .i64 x.op, .string x.nm, .int .i64 x.v.k, .int .i64 x.v.n, .string x.v.s, .slice A3 x.v.l.length c3, .slice A4 x.ar.length c4] := hW2 ▸ af.new w2 _ _
 have BE3 := QP.out.below hb3 QP.out.lt
 have hbw3 := hbw2.trans (hb3.mono hbw2.size)
 have HC1 := qh (show lK W2 W2.heap.size x (ai x A1 c1 A2 c2) from ((Ii.out.keep (dG.of hb3)).up hb3.size).at_)
 have HC2 := qh (show lK W2 W2.heap.size x (ai x A3 c3 A4 c4) from ((HI2.out.keep (dG.of hb3)).up hb3.size).at_)
 rw [← hW2]
 clear hW2 hb3
 obtain ⟨XL, TN, TP, XM, XN, XO, XP, XQ⟩ := af.c8 BE3
 obtain ⟨CJ, CO, Ea, Eb, Ec, Ed, Ee, Ef⟩ := af.c8 BK
 go_wp2_with fail
 refine (QS x W2.heap.size W2.heap.size (ai x A1 c1 A2 c2) (ai x A3 c3 A4 c4) W2 HC1.out HC2.out (Nat.le_refl _) (Nat.le_refl _)).mono ?_
 rintro en w4 ⟨rfl, hb4⟩
 go_wp2_with fail
 go_ret
 exact ⟨by first | rfl | simp, hbw3.trans (hb4.mono hbw3.size)⟩
end Go.Proofs.YtobanldeicclmaaGreatDoor
namespace Go.Proofs.YtobanldeicclmaaGreatDoor
open Go.ChangeShapes Go.WideShapes Go.ChangeAt Go.RowKit Go.Joins
theorem own : ownKnob Tryz.prog.godebug = none := by kernel_rfl
theorem laidOut : laidOutB Tryz.prog = true := by kernel_rfl
theorem wI {H : Type} {enc : TypeId × Value → H} {P : Program} {W W' : World} (hl : laidOutB P = true) (hb : Below W.heap.size W W') :
  ∀ {ts : List TypeId} {vs : List Value} {ds : List (DataW H)} {ps : List MemPlace}, (∀ t ∈ ts, P.readableRec t = true ∧ t < P.types.size) →
  DataW.TrodAll enc P W 0 (fun _ => true) true ts vs ds ps → (∀ x ∈ ps, x.block < W.heap.size) → DataW.TrodAll enc P W' 0 (fun b => decide (b < W.heap.size)) true ts vs ds ps
 | [], [], [], _, _, h, _ => h
 | _ :: _, _ :: _, _ :: _, _, hr, ⟨p, q, h1, h2, e⟩, hs =>
  ⟨p, q, Below.trod hl (hr _ (List.mem_cons.2 (Or.inl rfl))).1 (hr _ (List.mem_cons.2 (Or.inl rfl))).2 h1 hb (fun x hx => hs x (by rw [e]; exact List.mem_append_left _ hx)),
   wI hl hb (fun t ht => hr t (List.mem_cons.2 (Or.inr ht))) h2 (fun x hx => hs x (by rw [e]; exact List.mem_append_right _ hx)), e⟩
 | [], [], _ :: _, _, _, h, _ => h.elim
 | [], _ :: _, _, _, _, h, _ => by cases h
 | _ :: _, [], _, _, _, h, _ => by cases h
 | _ :: _, _ :: _, [], _, _, h, _ => h.elim
theorem Tf {H : Type} {enc : TypeId × Value → H} {f : Func} {s : ChangeSpec} {W W' : World} {args : Array Value} {ds gs : List (DataW H)} {before : List MemPlace}
  (hr : ∀ t ∈ f.params.toList, Tryz.prog.readableRec t = true ∧ t < Tryz.prog.types.size) (hrt : f.resultTypes = #[4]) (hv : s.vars = [])
  (h1 : (s.fn H (ds ++ gs)).results = [.lit (.bool true)]) (h2 : (s.fn H (ds ++ gs)).args = ds) (h3 : (s.fn H (ds ++ gs)).vars = [])
  (hW : DataW.Whole enc Tryz.prog f.params.toList s.vars false W args.toList ds gs before) (hb : Below W.heap.size W W') : s.post enc Tryz.prog f false true false false W args (.bool true) W' := by
 have hlt := hW.lt
 have hW0 := hW
 obtain ⟨p, q, hA, hV, rfl, _, _⟩ := hW
 refine ⟨ds, gs, p ++ q, [], p, [], hW0, ?_, ?_, ?_, hb.frame _, fun h => by cases h⟩
 ·
  rw [h1, hrt]
  exact ⟨[], [], shut_bool Tryz.underlying4 true, rfl, rfl⟩
 ·
  rw [h2]
  exact wI laidOut hb hr hA (fun x hx => by simpa using hlt x (List.mem_append_left _ hx))
 ·
  rw [h3, hv]; rfl
def yf : List (String × DataW Unit) := [("math/bits.deBruijn32tab", Rows.laid_math_bits_deBruijn32tab), ("math/bits.deBruijn64tab", Rows.laid_math_bits_deBruijn64tab), ("internal/strconv.uint64pow10", Rows.laid_internal_strconv_uint64pow10), ("unicode/utf8.acceptRanges", Rows.laid_unicode_utf8_acceptRanges), ("strconv.ErrRange", Rows.laid_strconv_ErrRange), ("strconv.ErrSyntax", Rows.laid_strconv_ErrSyntax), ("unicode.White_Space", Rows.laid_unicode_White_Space), ("strings.asciiSpace", Rows.laid_strings_asciiSpace), ("unicode/utf8.first", Rows.laid_unicode_utf8_first)]
theorem y9 : (yf.all fun x => x.2.handleName?.isNone) = true := by kernel_rfl
theorem Vb : Tryz.prog.globalNamed "internal/strconv.uint64pow10" = some 4 := by kernel_rfl
theorem QT : (Tryz.prog.globals[4]?).map (·.type) = some 153 := by kernel_rfl
theorem Vd : Tryz.prog.cellsOf 153 = 20 := by kernel_rfl
theorem Ve : Tryz.prog.cellsOf 133 = 1 := by kernel_rfl
theorem Ky : (Rows.laid_internal_strconv_uint64pow10 : DataW Unit) = Lib.tabData .u64 Lib.pow10Tab := by kernel_rfl
theorem Yo {W : World} (h : laidMetH Tryz.prog yf W) : Tab W := by
 rw [MakeChecks.laidMetH_plain _ _ _ y9] at h
 have h3 := (laidMet.tail (laidMet.tail h))
 unfold Tab
 rw [Ky] at h3
 exact Lib.tabIs_of_head Vb QT Tryz.underlying153 Tryz.underlying133 Ve Vd h3
theorem Xq : Tryz.prog.globalNamed "strings.asciiSpace" = some 1 := by kernel_rfl
theorem Vf : (Tryz.prog.globals[1]?).map (·.type) = some 144 := by kernel_rfl
theorem Xr : Tryz.prog.cellsOf 144 = 256 := by kernel_rfl
theorem Xt : Tryz.prog.cellsOf 5 = 1 := by kernel_rfl
theorem Nu : (Rows.laid_strings_asciiSpace : DataW Unit) = Lib.tabData .u8 Lib.asciiSpaceTab := by kernel_rfl
theorem Z9 {W : World} (h : laidMetH Tryz.prog yf W) : Sp W := by
 rw [MakeChecks.laidMetH_plain _ _ _ y9] at h
 have h3 := (laidMet.tail (laidMet.tail (laidMet.tail (laidMet.tail (laidMet.tail (laidMet.tail (laidMet.tail h)))))))
 unfold Sp
 rw [Nu] at h3
 exact Lib.tabIs_of_head Xq Vf Tryz.underlying144 Tryz.underlying5 Xt Xr h3
theorem aac {W : World} (h : W.ShapedOpen Tryz.prog) : Mx W :=
 cell_of_shapedOpen_int (zero := #[.int .i64 0]) (t := 3) h (by decide +kernel) (by kernel_rfl) rfl (by kernel_rfl) (by kernel_rfl) Tryz.underlying3
theorem abR : Tryz.prog.globalNamed "strconv.ErrSyntax" = some 8 := by kernel_rfl
theorem Vg : (Tryz.prog.globals[8]?).map (·.type) = some 101 := by kernel_rfl
theorem abS : Tryz.prog.globalNamed "strconv.ErrRange" = some 9 := by kernel_rfl
theorem Vh : (Tryz.prog.globals[9]?).map (·.type) = some 101 := by kernel_rfl
theorem Ot : Tryz.prog.cellsOf 227 = 1 := by kernel_rfl
theorem Kz : Tryz.prog.cellsOf 9 = 1 := by kernel_rfl
theorem Vj : "*" ++ "errors.errorString" = "*errors.errorString" := by decide
theorem X7 (u : TypeId) (h : Tryz.prog.typeName? 3 u = some "*errors.errorString") : u = 225 :=
 typeName_ptr_named (nm := "errors.errorString") (by rw [Vj]; kernel_rfl) (by kernel_rfl) (by decide) u (by rw [Vj]; exact h)
theorem aab {W : World} (h : laidMetH Tryz.prog yf W) : Er W := by
 rw [MakeChecks.laidMetH_plain _ _ _ y9] at h
 have hr := (laidMet.tail (laidMet.tail (laidMet.tail (laidMet.tail h))))
 have hs := (laidMet.tail (laidMet.tail (laidMet.tail (laidMet.tail (laidMet.tail h)))))
 obtain ⟨a1, s1, hv1, -, -, -⟩ := laid_sentinel hr abS Vh Tryz.underlying101 X7 Tryz.underlying225 Tryz.underlying227 rfl rfl Tryz.underlying9 Ot Kz
 obtain ⟨a2, s2, hv2, -, -, -⟩ := laid_sentinel hs abR Vg Tryz.underlying101 X7 Tryz.underlying225 Tryz.underlying227 rfl rfl Tryz.underlying9 Ot Kz
 exact ⟨_, _, _, _, by simpa using World.var?_cell abR hv2 0, by simpa using World.var?_cell abS hv1 0⟩
def Vk : DataW Unit → List Value
 | .lit (.int k n) => [.int k n]
 | _ => []
def abT : DataW Unit → List Value
 | .agg l => l.flatMap Vk
 | d => Vk d
def flat3 : DataW Unit → List Value
 | .agg l => l.flatMap abT
 | d => Vk d
def rO (d : DataW Unit) (o : Obj) : Obj := match o with
 | .cells _ t frozen => .cells (flat3 d).toArray t frozen
 | o => o
def Ou (t : TypeId) (g : Nat) (o : Obj) : Obj := match o with
 | .cells _ u frozen => .cells #[.iface t (.pointer (some ⟨g, 0, none⟩))] u frozen
 | o => o
def abU (g : Nat) (o : Obj) : Obj := match o with
 | .cells _ u frozen => .cells #[.pointer (some ⟨g, 0, none⟩)] u frozen
 | o => o
noncomputable def yg (os : Os) : Nat := (World.holding Tryz.prog os ⟨#[], #[], []⟩).heap.size
noncomputable def laidWorld (os : Os) : World :=
 { World.holding Tryz.prog os ⟨#[], #[], []⟩ with heap := ((((((((((((((World.holding Tryz.prog os ⟨#[], #[], []⟩).heap.modify 6 (rO Rows.laid_math_bits_deBruijn32tab)).modify 7 (rO Rows.laid_math_bits_deBruijn64tab)).modify 4 (rO Rows.laid_internal_strconv_uint64pow10)).modify 3 (rO Rows.laid_unicode_utf8_acceptRanges)).modify 1 (rO Rows.laid_strings_asciiSpace)).modify 2 (rO Rows.laid_unicode_utf8_first)).modify 9 (Ou 225 (yg os + 0))).push (.cells #[.string ⟨#[118, 97, 108, 117, 101, 32, 111, 117, 116, 32, 111, 102, 32, 114, 97, 110, 103, 101]⟩] 227 (0, 0))).modify 8 (Ou 225 (yg os + 1))).push (.cells #[.string ⟨#[105, 110, 118, 97, 108, 105, 100, 32, 115, 121, 110, 116, 97, 120]⟩] 227 (0, 0))).modify 5 (abU (yg os + 2))).push (.cells #[.slice (some ⟨yg os + 3, 0, none⟩) 7 7, .slice none 0 0, .int .i64 2] 172 (0, 0))).push (.cells #[.int .u16 9, .int .u16 13, .int .u16 1, .int .u16 32, .int .u16 133, .int .u16 101, .int .u16 160, .int .u16 5760, .int .u16 5600, .int .u16 8192, .int .u16 8202, .int .u16 1, .int .u16 8232, .int .u16 8233, .int .u16 1, .int .u16 8239, .int .u16 8287, .int .u16 48, .int .u16 12288, .int .u16 12288, .int .u16 1] 175 (0, 0))) }
end Go.Proofs.YtobanldeicclmaaGreatDoor
