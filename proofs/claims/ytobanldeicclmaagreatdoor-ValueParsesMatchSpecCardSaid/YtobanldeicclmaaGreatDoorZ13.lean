/- Lemmas for the claim: walks and plain laws. -/
import Derived.Test.YtobanldeicclmaaGreatDoorZ4
import Derived.Test.YtobanldeicclmaaGreatDoorZ5
import Derived.RegionTactic
import Derived.Test.YtobanldeicclmaaGreatDoorZ12
set_option maxHeartbeats 4000000
set_option maxRecDepth 100000
namespace Go.Proofs.YtobanldeicclmaaGreatDoor
open Go.RowKit Dig Vtx
theorem xh {l : List UInt8} {a : Nat} (h : dN l = (a, false)) : a = 0 := by
 unfold dN at h
 split at h
 ·
  injection h with h _; exact h.symm
 ·
  split at h
  ·
   injection h with _ h; cases h
  ·
   injection h with h _; exact h.symm
theorem Tq {y m d : Int} (h : Cal.jq y m d = true) : dk y m d = 6 ∧ dn y m d = Cal.num y m d := by unfold dk dn; rw [if_pos h, if_pos h]; exact ⟨rfl, rfl⟩
theorem XH {y m d : Int} (h : Cal.jq y m d = false) : dk y m d = 0 ∧ dn y m d = 0 := by unfold dk dn; rw [h]; exact ⟨rfl, rfl⟩
theorem Gy {y m d : Int} (h : y = 0 ∨ m = 0 ∨ d = 0) : Cal.jq y m d = false := by
 rw [Bool.eq_false_iff]
 intro e
 rw [Cal.nD] at e
 omega
theorem VY {r : List UInt8} (h : (Lib.split r [45]).length ≠ 3) : jr r = none := by
 unfold jr
 split
 ·
  rename_i e; rw [e] at h; exact absurd rfl h
 ·
  rfl
theorem Jh (s : ByteArray) (w : World) (hs : s.size ≤ 2000000) (h1 : 1 ≤ s.size) (hm : Mx w) :
  Calls Tryz.prog 189 #[.string s] w fun e w' => e = .returned (Gg 6 (jr s.data.toList.tail)) ∧ Below w.heap.size w w' := by
 have HM := qh hm
 clear hm
 have HX := qh (show (s.extract 1 s.size).data.toList = s.data.toList.tail by
  rw [Lib.extract_data, List.take_of_length_le (by simp), List.drop_one])
 have hxl : (s.extract 1 s.size).size ≤ 2000000 := by rw [ByteArray.size_extract]; omega
 go_enter Tryz.func189, Tryz.ntmps189
 go_wp2_with fail
 obtain ⟨W, hW⟩ := au ((w.alloc (.cells #[.int .i64 0, .int .i64 0, .string ⟨#[]⟩, .slice none 0 0] 24 (0, 0))))
 have hbw : Below w.heap.size w W := by rw [hW]; exact ((Below.refl _ w).alloc (Nat.le_refl _) _)
 have B0 : af W (w.heap.size) 24 #[.int .i64 0, .int .i64 0, .string ⟨#[]⟩, .slice none 0 0] := by
  rw [hW]
  have := af.new w 24 #[.int .i64 0, .int .i64 0, .string ⟨#[]⟩, .slice none 0 0]
  exact this
 have hsz : W.heap.size = w.heap.size + 1 := by rw [hW]; simp
 rw [← hW]
 clear hW hsz
 refine (vG _ 45 W hxl (HM.out.below hbw)).mono ?_
 rintro e w1 ⟨ps, rfl, hw1, hps, hpl⟩
 rw [HX.out] at hps
 have hb1 : Below W.heap.size W w1 := hw1 ▸ (Below.refl _ W).alloc (Nat.le_refl _) _
 have B1 : af w1 W.heap.size 9 (ps.map Value.string).toArray := hw1 ▸ af.new W _ _
 have hlen : (Lib.split s.data.toList.tail [45]).length = ps.length := by rw [← hps]; simp
 have ZC := qh hps
 have B0 := B0.below hb1 B0.lt
 have hbw := hbw.trans (hb1.mono hbw.size)
 have hpm : ps.length ≤ 2000001 := by omega
 clear hps hw1 hb1 hpl
 obtain ⟨aQ, eX, aS, eY, aT, fD, aU, fE⟩ := af.z4 B0
 by_cases h3 : ps.length = 3
 rotate_left
 ·
  have HE := qh (show Gg 6 (jr s.data.toList.tail) = .tuple #[.agg #[.int .i64 0, .int .i64 0, .string ⟨#[]⟩, .slice none 0 0], .bool false] by rw [VY (by rw [hlen]; exact h3)]; rfl)
  have h3b : (((ps.length : Nat) : Int) != 3) = true := by simp; omega
  clear hlen h3
  go_wp2
  obtain ⟨W9, dI, B9, di⟩ := bG B0 hbw (.int .i64 0) (.int .i64 0) (.string ⟨#[]⟩) (.slice none 0 0)
  rw [← dI]
  clear dI
  obtain ⟨iW, qc1, qc2, qc3⟩ := af.c4 B9
  refine bodyPost_ret (v := .tuple #[.agg #[.int .i64 0, .int .i64 0, .string ⟨#[]⟩, .slice none 0 0], .bool false]) (by simp [results, Tryz.results189, go_sem, iW, qc1, qc2, qc3]) rfl ⟨eP HE.out.symm, di⟩
 obtain ⟨p1, p2, p3, rfl⟩ : ∃ p1 p2 p3, ps = [p1, p2, p3] := by
  rcases ps with _ | ⟨p1, _ | ⟨p2, _ | ⟨p3, _ | ⟨p4, r⟩⟩⟩⟩ <;> simp at h3
  exact ⟨_, _, _, rfl⟩
 have pc0 : w1.cell? ⟨W.heap.size, 0, none⟩ = some (.string p1) := B1.cell 0
 have pc1 : w1.cell? ⟨W.heap.size, 1, none⟩ = some (.string p2) := B1.cell 1
 have pc2 : w1.cell? ⟨W.heap.size, 2, none⟩ = some (.string p3) := B1.cell 2
 obtain ⟨y, ok1, hw1, hv1, ha1⟩ := kJ p1.data.toList
 obtain ⟨m, ok2, hw2, hv2, ha2⟩ := kJ p2.data.toList
 obtain ⟨d, ok3, hw3, hv3, XI⟩ := kJ p3.data.toList
 have Yc := qh hv1
 have ZW := qh hv2
 have HV3 := qh hv3
 have HR := qh (show jr s.data.toList.tail = if ok1 && ok2 && ok3 && Cal.jq y m d then some (Cal.num y m d) else none by
  unfold jr
  rw [← ZC.out]
  simp only [List.map_cons, List.map_nil]
  rw [hw1, hw2, hw3])
 have HZ := qh (show (ok1 = false → y = 0) ∧ (ok2 = false → m = 0) ∧ (ok3 = false → d = 0) from
  ⟨fun h => xh (h ▸ hw1), fun h => xh (h ▸ hw2), fun h => xh (h ▸ hw3)⟩)
 clear hw1 hw2 hw3 hv1 hv2 hv3 h3 hlen ZC hpm
 go_wp2_with fail
 refine (nJ p1 w1).mono ?_
 rw [Yc.out]
 rintro e w2 ⟨rfl, rfl⟩
 go_wp2_with fail
 refine (nJ p2 w1).mono ?_
 rw [ZW.out]
 rintro e w2 ⟨rfl, rfl⟩
 go_wp2_with fail
 refine (nJ p3 w1).mono ?_
 rw [HV3.out]
 rintro e w2 ⟨rfl, rfl⟩
 clear Yc ZW HV3 pc0 pc1 pc2 aQ eX aS eY aT fD aU fE
 go_wp2_with fail
 refine (Su y m d w1).mono ?_
 rintro e w2 ⟨rfl, hb2⟩
 have B0 := B0.below hb2 B0.lt
 have hbw := hbw.trans (hb2.mono hbw.size)
 have hs2 := hbw.size
 obtain ⟨ok, hok⟩ := ae (Cal.jq y m d)
 obtain ⟨K, N, hK, hN, hr⟩ : ∃ K N : Int, dk y m d = K ∧ dn y m d = N ∧ ((ok1 = true ∧ ok2 = true ∧ ok3 = true ∧ K = 6 ∧ Gg 6 (jr s.data.toList.tail) = .tuple #[.agg #[.int .i64 6, .int .i64 N, .string ⟨#[]⟩, .slice none 0 0], .bool true]) ∨
   (K = 0 ∧ N = 0 ∧ Gg 6 (jr s.data.toList.tail) = .tuple #[.agg #[.int .i64 0, .int .i64 0, .string ⟨#[]⟩, .slice none 0 0], .bool false])) := by
  refine ⟨_, _, rfl, rfl, ?_⟩
  rw [HR.out]
  cases ok
  ·
   right
   refine ⟨(XH hok).1, (XH hok).2, ?_⟩
   rw [hok, Bool.and_false, if_neg (by simp)]; rfl
  ·
   cases ok1
   ·
    exact absurd (Gy (y := y) (m := m) (d := d) (.inl (by have := HZ.out.1 rfl; omega))) (by rw [hok]; simp)
   ·
    cases ok2
    ·
     exact absurd (Gy (y := y) (m := m) (d := d) (.inr (.inl (by have := HZ.out.2.1 rfl; omega)))) (by rw [hok]; simp)
    ·
     cases ok3
     ·
      exact absurd (Gy (y := y) (m := m) (d := d) (.inr (.inr (by have := HZ.out.2.2 rfl; omega)))) (by rw [hok]; simp)
     ·
      left
      refine ⟨rfl, rfl, rfl, (Tq hok).1, ?_⟩
      rw [hok, (Tq hok).2]; rfl
 rw [hK, hN]
 clear hK hN hok hb2 HR HZ
 go_upto_region 8 with (fail)
 obtain ⟨W3, hW3⟩ := au (w2.alloc (.cells #[.int .i64 K, .int .i64 N, .string ⟨#[]⟩, .slice none 0 0] 24 (0, 0)))
 have hb3 : Below w2.heap.size w2 W3 := hW3 ▸ (Below.refl _ w2).alloc (Nat.le_refl _) _
 have B3 : af W3 w2.heap.size 24 #[.int .i64 K, .int .i64 N, .string ⟨#[]⟩, .slice none 0 0] := hW3 ▸ af.new w2 _ _
 have hlt := B0.lt
 have B0 := B0.below hb3 B0.lt
 have hbw := hbw.trans (hb3.mono hbw.size)
 rw [← hW3]
 clear hW3 hb3
 obtain ⟨aQ, eX, aS, eY, aT, fD, aU, fE⟩ := af.z4 B0
 rcases hr with ⟨rfl, rfl, rfl, rfl, hE⟩ | ⟨rfl, rfl, hE⟩
 ·
  have HE := qh hE
  clear hE
  obtain ⟨Fp, KC, DZ, NS⟩ := af.c4 B3
  go_region
  all_goals
   go_wp2
   obtain ⟨W9, dI, B9, di⟩ := bG B0 hbw (.int .i64 6) (.int .i64 N) (.string ⟨#[]⟩) (.slice none 0 0)
   rw [← dI]
   clear dI
   obtain ⟨iW, qc1, qc2, qc3⟩ := af.c4 B9
   refine bodyPost_ret (v := .tuple #[.agg #[.int .i64 6, .int .i64 N, .string ⟨#[]⟩, .slice none 0 0], .bool true]) (by simp [results, Tryz.results189, go_sem, iW, qc1, qc2, qc3]) rfl ⟨eP HE.out.symm, di.drew⟩
 ·
  have HE := qh hE
  clear hE
  obtain ⟨Fp, KC, DZ, NS⟩ := af.c4 B3
  cases ok1 <;> cases ok2 <;> cases ok3
  all_goals
   go_region
   all_goals
    go_wp2
    obtain ⟨W9, dI, B9, di⟩ := bG B0 hbw (.int .i64 0) (.int .i64 0) (.string ⟨#[]⟩) (.slice none 0 0)
    rw [← dI]
    clear dI
    obtain ⟨iW, qc1, qc2, qc3⟩ := af.c4 B9
    refine bodyPost_ret (v := .tuple #[.agg #[.int .i64 0, .int .i64 0, .string ⟨#[]⟩, .slice none 0 0], .bool false]) (by simp [results, Tryz.results189, go_sem, iW, qc1, qc2, qc3]) rfl ⟨eP HE.out.symm, di.drew⟩
structure GV (e : Ending) (w : World) (B : Nat) (s : List UInt8) : Prop where
 ex : ∃ (x : Val) (A : Option Addr) (c : Nat) (ok : Bool), e = .returned (.tuple #[.agg #[.int .i64 x.k, .int .i64 x.n, .string x.s, .slice A x.l.length c], .bool ok]) ∧ Reads w w.heap.size 1 A x.l.length (dS .i64 x.l) ∧ (∀ ad, A = some ad → B ≤ ad.block) ∧ x.l.length ≤ 4000000 ∧ x.s.size ≤ 4000000 ∧
  (ok = true → dA s = some ⟨x.k, x.n, x.s.data.toList, x.l⟩) ∧ (ok = false → dA s = none)
theorem GV.plain {w : World} {B : Nat} {s : List UInt8} (k n : Int) (t : ByteArray) (ok : Bool) (ht : t.size ≤ 4000000) (h1 : ok = true → dA s = some ⟨k, n, t.data.toList, []⟩) (h2 : ok = false → dA s = none) :
  GV (.returned (.tuple #[.agg #[.int .i64 k, .int .i64 n, .string t, .slice none 0 0], .bool ok])) w B s :=
 ⟨⟨⟨k, n, t, []⟩, none, 0, ok, rfl, Reads.none_, (fun _ h => by cases h), by simp, ht, h1, h2⟩⟩
theorem Reads.apart {w : World} {B size n g i : Nat} {A : Option Addr} {xs : List Value} (h : Reads w B size A n xs) (hA : ∀ ad, A = some ad → g < ad.block) (u : Value) : Reads (w.setCell ⟨g, i, none⟩ u) B size A n xs := by
 refine ⟨h.1, fun hn => ?_⟩
 obtain ⟨ad, e, hb, hc⟩ := h.2 hn
 refine ⟨ad, e, hb, fun j x hx => ?_⟩
 rw [World.cell?_setCell_other w ⟨g, i, none⟩ (ad.add j) u (fun e2 => by
  have h1 := hA ad e
  have h2 := congrArg Addr.block e2
  rw [ja] at h2
  exact absurd h2 (by show g ≠ ad.block; omega))]
 exact hc j x hx
theorem Fq (k : Int) (o : Option Int) : ∃ K N ok, Gg k o = .tuple #[.agg #[.int .i64 K, .int .i64 N, .string ⟨#[]⟩, .slice none 0 0], .bool ok] ∧ (ok = true → K = k ∧ o = some N) ∧ (ok = false → o = none) := by
 cases o with
 | none => exact ⟨0, 0, false, rfl, (fun h => by cases h), fun _ => rfl⟩
 | some n => exact ⟨k, n, true, rfl, (fun _ => ⟨rfl, rfl⟩), fun h => by cases h⟩
theorem Gz {s : ByteArray} (h : 0 < s.size) : s.data.toList.head? = some s[0] := by
 rw [List.head?_eq_getElem?, List.getElem?_eq_getElem (show 0 < s.data.toList.length from h)]
 rfl
theorem head_ne {s : ByteArray} (h : 0 < s.size) {c : UInt8} (hc : ((s[0].toNat : Nat) : Int) ≠ (c.toNat : Nat)) : s.data.toList.head? ≠ some c := by
 rw [Gz h]
 intro e
 injection e with e
 rw [e] at hc
 exact hc rfl
theorem head_eq {s : ByteArray} (h : 0 < s.size) {c : UInt8} (hc : ((s[0].toNat : Nat) : Int) = (c.toNat : Nat)) : s.data.toList.head? = some c := by
 rw [Gz h]
 congr 1
 exact UInt8.toNat_inj.1 (by omega)
structure ZE (s : List UInt8) : Prop where
 a : s ≠ []
 b : s ≠ [45]
 c : s ≠ iP
 d : s ≠ dV
theorem Tt {s : List UInt8} (h : ZE s) (h1 : s.head? = some 39) : dA s = some ⟨3, 0, Lib.replaceAll (Lib.trimSuffix s.tail [39]) [39, 39] [39], []⟩ := by
 unfold dA; rw [if_neg h.a, if_neg h.b, if_neg h.c, if_neg h.d, if_pos h1]
theorem Tu {s : List UInt8} (h : ZE s) (h1 : s.head? = some 35) : dA s = if (dN s.tail).2 then some ⟨4, (dN s.tail).1, [], []⟩ else none := by
 unfold dA; rw [if_neg h.a, if_neg h.b, if_neg h.c, if_neg h.d, if_neg (by rw [h1]; simp), if_pos h1]
theorem Po {s : List UInt8} (h : ZE s) (h1 : s.head? = some 123) : dA s = (jM s).map (⟨5, 0, [], ·⟩) := by
 unfold dA; rw [if_neg h.a, if_neg h.b, if_neg h.c, if_neg h.d, if_neg (by rw [h1]; simp), if_neg (by rw [h1]; simp), if_pos h1]
theorem Tv {s : List UInt8} (h : ZE s) (h1 : s.head? = some 64) : dA s = (jr s.tail).map (⟨6, ·, [], []⟩) := by
 unfold dA; rw [if_neg h.a, if_neg h.b, if_neg h.c, if_neg h.d, if_neg (by rw [h1]; simp), if_neg (by rw [h1]; simp), if_neg (by rw [h1]; simp), if_pos h1]
theorem Pq {s : List UInt8} (h : ZE s) (h1 : s.head? ≠ some 39) (h2 : s.head? ≠ some 35) (h3 : s.head? ≠ some 123) (h4 : s.head? ≠ some 64) (w1 : s ≠ OC) (w2 : s ≠ OD) (w3 : s ≠ OE) : dA s = (jL s).map (⟨2, ·, [], []⟩) := by
 unfold dA; rw [if_neg h.a, if_neg h.b, if_neg h.c, if_neg h.d, if_neg h1, if_neg h2, if_neg h3, if_neg h4, if_neg w1, if_neg w2, if_neg w3]
theorem NU (s : List UInt8) : (Lib.replaceAll s [39, 39] [39]).length ≤ s.length := by
 rw [jK (by simp), IA]
 induction s using OA.induct with
 | case1 a b r h ih => rw [OA, if_pos h]; simp only [List.length_cons]; omega
 | case2 a b r h ih => rw [OA, if_neg h]; simp only [List.length_cons] at *; omega
 | case3 l h =>
  rcases l with _ | ⟨a, _ | ⟨b, r⟩⟩
  ·
   exact Nat.le_refl _
  ·
   exact Nat.le_refl _
  ·
   exact absurd rfl (h a b r)
theorem Pv (s : ByteArray) (w : World) (hs : s.size ≤ 2000000) (hm : Mx w) (ho : ZE s.data.toList) :
  Calls Tryz.prog 171 #[.string s] w fun e w' => GV e w' w.heap.size s.data.toList ∧ Below w.heap.size w w' := by
 have HM := qh hm
 have HO := qh ho
 have hsl : s.data.toList.length = s.size := rfl
 have e1 : s.toList.isEmpty = false := by rw [ByteArray.toList_eq]; simpa using ho.a
 have e2 : (s.toList == [45]) = false := by rw [ByteArray.toList_eq, beq_eq_false_iff_ne]; exact ho.b
 have e3 : (s.toList == [116, 114, 117, 101]) = false := by rw [ByteArray.toList_eq, beq_eq_false_iff_ne]; exact ho.c
 have e4 : (s.toList == [102, 97, 108, 115, 101]) = false := by rw [ByteArray.toList_eq, beq_eq_false_iff_ne]; exact ho.d
 have hp : 0 < s.size := by
  rcases Nat.eq_zero_or_pos s.size with h | h
  ·
   exact absurd (List.eq_nil_of_length_eq_zero (by rw [hsl]; exact h)) ho.a
  ·
   exact h
 have HX := qh (show (s.extract 1 s.size).data.toList = s.data.toList.tail by
  rw [Lib.extract_data, List.take_of_length_le (by simp), List.drop_one])
 have hxl : (s.extract 1 s.size).size ≤ 2000000 := by rw [ByteArray.size_extract]; omega
 have hba : Below w.heap.size w (w.alloc (.cells #[.int .i64 0, .int .i64 0, .string ⟨#[]⟩, .slice none 0 0] 24 (0, 0))) := (Below.refl _ _).alloc (Nat.le_refl _) _
 have sJ := af.new w 24 #[.int .i64 0, .int .i64 0, .string ⟨#[]⟩, .slice none 0 0]
 obtain ⟨W, hW⟩ := au (w.alloc (.cells #[.int .i64 0, .int .i64 0, .string ⟨#[]⟩, .slice none 0 0] 24 (0, 0)))
 have HW := qh hW
 rw [← hW] at hba sJ
 clear hm ho hsl hW
 by_cases jZ : ((s[0].toNat : Nat) : Int) = 39
 ·
  have b39 : (((s[0].toNat : Nat) : Int) == 39) = true := by simpa using jZ
  have HG := qh (Tt HO.out (head_eq (c := 39) hp jZ))
  clear jZ
  go_enter Tryz.func171, Tryz.ntmps171
  go_wp2_with fail
  rw [← HW.out]
  refine (Gx (s.extract 1 s.size) ⟨#[39]⟩ W hxl).mono ?_
  rintro e w1 ⟨⟨t1, rfl, ht1⟩, rfl⟩
  have hl1 : t1.size ≤ 2000000 := by
   have := Lib.trimSuffix_le (s.extract 1 s.size).data.toList [39]
   rw [fB ht1]
   have h2 : (s.extract 1 s.size).data.toList.length = (s.extract 1 s.size).size := rfl
   show (Lib.trimSuffix (s.extract 1 s.size).data.toList [39]).length ≤ _
   omega
  have HT1 := qh (show t1.data.toList = Lib.trimSuffix s.data.toList.tail [39] by rw [ht1, HX.out])
  clear ht1
  go_wp2_with fail
  refine (mP t1 ⟨#[39, 39]⟩ ⟨#[39]⟩ W hl1 (by decide) (by decide) (HM.out.below hba)).mono ?_
  rintro e w2 ⟨⟨t2, rfl, ht2⟩, hb2⟩
  have hl2 : t2.size ≤ 4000000 := by
   rw [fB ht2]
   have := NU t1.data.toList
   have h2 : t1.data.toList.length = t1.size := rfl
   show (Lib.replaceAll t1.data.toList [39, 39] [39]).length ≤ _
   omega
  have HE := qh (show dA s.data.toList = some ⟨3, 0, t2.data.toList, []⟩ by rw [HG.out, ht2, ← HT1.out])
  have B0 := sJ.below hb2 sJ.lt
  have hbw := hba.trans (hb2.mono hba.size)
  clear ht2 hb2
  obtain ⟨aQ, eX, aS, eY, aT, fD, aU, fE⟩ := af.z4 B0
  go_wp2
  obtain ⟨W9, dI, B9, di⟩ := bG B0 hbw (.int .i64 3) (.int .i64 0) (.string t2) (.slice none 0 0)
  rw [← dI]
  clear dI
  obtain ⟨iW, qc1, qc2, qc3⟩ := af.c4 B9
  refine bodyPost_ret (v := .tuple #[.agg #[.int .i64 3, .int .i64 0, .string t2, .slice none 0 0], .bool true]) (by simp [results, Tryz.results171, go_sem, iW, qc1, qc2, qc3]) rfl ⟨GV.plain 3 0 t2 true hl2 (fun _ => HE.out) (fun h => by cases h), di⟩
 have b39 : (((s[0].toNat : Nat) : Int) == 39) = false := by simpa using jZ
 have HH1 := qh (head_ne (c := 39) hp jZ)
 clear jZ
 by_cases h35 : ((s[0].toNat : Nat) : Int) = 35
 ·
  have b35 : (((s[0].toNat : Nat) : Int) == 35) = true := by simpa using h35
  have HG := qh (Tu HO.out (head_eq (c := 35) hp h35))
  obtain ⟨a, ok, hw1, hv1, ha⟩ := kJ (s.extract 1 s.size).data.toList
  have Yc := qh hv1
  have HE := qh (show dA s.data.toList = if ok then some ⟨4, (a : Nat), [], []⟩ else none by rw [HG.out, ← HX.out, hw1])
  clear h35 hw1 hv1
  go_enter Tryz.func171, Tryz.ntmps171
  go_wp2_with fail
  rw [← HW.out]
  refine (nJ (s.extract 1 s.size) W).mono ?_
  rw [Yc.out]
  rintro e w1 ⟨rfl, rfl⟩
  obtain ⟨aQ, eX, aS, eY, aT, fD, aU, fE⟩ := af.z4 sJ
  go_wp2
  obtain ⟨W9, dI, B9, di⟩ := bG sJ hba (.int .i64 4) (.int .i64 (a : Nat)) (.string ⟨#[]⟩) (.slice none 0 0)
  rw [← dI]
  clear dI
  obtain ⟨iW, qc1, qc2, qc3⟩ := af.c4 B9
  refine bodyPost_ret (v := .tuple #[.agg #[.int .i64 4, .int .i64 (a : Nat), .string ⟨#[]⟩, .slice none 0 0], .bool ok]) (by simp [results, Tryz.results171, go_sem, iW, qc1, qc2, qc3]) rfl ⟨GV.plain 4 a ⟨#[]⟩ ok (by decide) (fun h => by rw [HE.out, h]; rfl) (fun h => by rw [HE.out, h]; rfl), di⟩
 have b35 : (((s[0].toNat : Nat) : Int) == 35) = false := by simpa using h35
 have HH2 := qh (head_ne (c := 35) hp h35)
 clear h35
 by_cases fJ : ((s[0].toNat : Nat) : Int) = 123
 ·
  have acE : (((s[0].toNat : Nat) : Int) == 123) = true := by simpa using fJ
  have HG := qh (Po HO.out (head_eq (c := 123) hp fJ))
  clear fJ
  go_enter Tryz.func171, Tryz.ntmps171
  go_wp2_with fail
  rw [← HW.out]
  refine (Jg s W hs (HM.out.below hba)).mono ?_
  rintro e w1 ⟨hr, hb1⟩
  obtain ⟨A, c, l, ok, rfl, hrd, hA, hl, q1, q2⟩ := hr.ex
  have hA2 : ∀ ad, A = some ad → w.heap.size < ad.block := fun ad h => Nat.lt_of_lt_of_le sJ.lt (hA ad h)
  have oI := qh (And.intro hrd hA2)
  have HQ := qh (And.intro q1 q2)
  have B0 := sJ.below hb1 sJ.lt
  have hbw := hba.trans (hb1.mono hba.size)
  clear hr hb1 hrd hA q1 q2 hA2
  obtain ⟨aQ, eX, aS, eY, aT, fD, aU, fE⟩ := af.z4 B0
  go_wp2
  obtain ⟨W9, dI, B9, di⟩ := bG B0 hbw (.int .i64 5) (.int .i64 0) (.string ⟨#[]⟩) (.slice A l.length c)
  have Yu := qh (dI ▸ (((oI.out.1.apart oI.out.2 _).apart oI.out.2 _).apart oI.out.2 _).apart oI.out.2 _ : Reads W9 w1.heap.size 1 A l.length (dS .i64 l))
  have hs9 : w1.heap.size ≤ W9.heap.size := by rw [dI]; simp [World.setCell]
  rw [← dI]
  clear dI
  obtain ⟨iW, qc1, qc2, qc3⟩ := af.c4 B9
  refine bodyPost_ret (v := .tuple #[.agg #[.int .i64 5, .int .i64 0, .string ⟨#[]⟩, .slice A l.length c], .bool ok]) (by simp [results, Tryz.results171, go_sem, iW, qc1, qc2, qc3]) rfl ⟨⟨⟨⟨5, 0, ⟨#[]⟩, l⟩, A, c, ok, rfl, Yu.out.more hs9, (fun ad h => Nat.le_of_lt (oI.out.2 ad h)), by show l.length ≤ _; omega, by show 0 ≤ _; omega, (fun h => by rw [HG.out, HQ.out.1 h]; rfl), (fun h => by rw [HG.out, HQ.out.2 h]; rfl)⟩⟩, di⟩
 have acE : (((s[0].toNat : Nat) : Int) == 123) = false := by simpa using fJ
 have HH3 := qh (head_ne (c := 123) hp fJ)
 clear fJ
 by_cases h64 : ((s[0].toNat : Nat) : Int) = 64
 ·
  have b64 : (((s[0].toNat : Nat) : Int) == 64) = true := by simpa using h64
  have HG := qh (Tv HO.out (head_eq (c := 64) hp h64))
  clear h64
  obtain ⟨K, N, ok, hv, hq1, hq2⟩ := Fq 6 (jr s.data.toList.tail)
  have HV := qh hv
  have HQ := qh (show (ok = true → dA s.data.toList = some ⟨K, N, [], []⟩) ∧ (ok = false → dA s.data.toList = none) from ⟨fun h => by rw [HG.out]; obtain ⟨e1, e2⟩ := hq1 h; rw [e2, e1]; rfl, fun h => by rw [HG.out, hq2 h]; rfl⟩)
  clear hv hq1 hq2
  go_enter Tryz.func171, Tryz.ntmps171
  go_wp2_with fail
  rw [← HW.out]
  refine (Jh s W hs (by omega) (HM.out.below hba)).mono ?_
  rw [HV.out]
  rintro e w1 ⟨rfl, hb1⟩
  have B0 := sJ.below hb1 sJ.lt
  have hbw := hba.trans (hb1.mono hba.size)
  clear hb1
  obtain ⟨aQ, eX, aS, eY, aT, fD, aU, fE⟩ := af.z4 B0
  go_wp2
  obtain ⟨W9, dI, B9, di⟩ := bG B0 hbw (.int .i64 K) (.int .i64 N) (.string ⟨#[]⟩) (.slice none 0 0)
  rw [← dI]
  clear dI
  obtain ⟨iW, qc1, qc2, qc3⟩ := af.c4 B9
  refine bodyPost_ret (v := .tuple #[.agg #[.int .i64 K, .int .i64 N, .string ⟨#[]⟩, .slice none 0 0], .bool ok]) (by simp [results, Tryz.results171, go_sem, iW, qc1, qc2, qc3]) rfl ⟨GV.plain K N ⟨#[]⟩ ok (by decide) HQ.out.1 HQ.out.2, di⟩
 have b64 : (((s[0].toNat : Nat) : Int) == 64) = false := by simpa using h64
 have HH4 := qh (head_ne (c := 64) hp h64)
 clear h64
 have i0 : ∀ w, (Instr.index 72 (.agg #[.string ⟨#[]⟩, .string ⟨#[100, 111, 110, 116, 107, 110, 111, 119]⟩, .string ⟨#[114, 101, 102, 117, 115, 101, 100]⟩, .string ⟨#[110, 111, 97, 110, 115, 119, 101, 114]⟩]) (.int .i64 0)).run Tryz.prog w = .ok (.string ⟨#[]⟩) w := fun _ => by kernel_rfl
 have i1 : ∀ w, (Instr.index 72 (.agg #[.string ⟨#[]⟩, .string ⟨#[100, 111, 110, 116, 107, 110, 111, 119]⟩, .string ⟨#[114, 101, 102, 117, 115, 101, 100]⟩, .string ⟨#[110, 111, 97, 110, 115, 119, 101, 114]⟩]) (.int .i64 1)).run Tryz.prog w = .ok (.string ⟨#[100, 111, 110, 116, 107, 110, 111, 119]⟩) w := fun _ => by kernel_rfl
 have i2 : ∀ w, (Instr.index 72 (.agg #[.string ⟨#[]⟩, .string ⟨#[100, 111, 110, 116, 107, 110, 111, 119]⟩, .string ⟨#[114, 101, 102, 117, 115, 101, 100]⟩, .string ⟨#[110, 111, 97, 110, 115, 119, 101, 114]⟩]) (.int .i64 2)).run Tryz.prog w = .ok (.string ⟨#[114, 101, 102, 117, 115, 101, 100]⟩) w := fun _ => by kernel_rfl
 have i3 : ∀ w, (Instr.index 72 (.agg #[.string ⟨#[]⟩, .string ⟨#[100, 111, 110, 116, 107, 110, 111, 119]⟩, .string ⟨#[114, 101, 102, 117, 115, 101, 100]⟩, .string ⟨#[110, 111, 97, 110, 115, 119, 101, 114]⟩]) (.int .i64 3)).run Tryz.prog w = .ok (.string ⟨#[110, 111, 97, 110, 115, 119, 101, 114]⟩) w := fun _ => by kernel_rfl
 have Ll := qh (fun w1 w2 w3 => Pq HO.out HH1.out HH2.out HH3.out HH4.out w1 w2 w3)
 clear HH1 HH2 HH3 HH4
 by_cases hw1 : s.data.toList = OC
 ·
  have g0 : (([] : List UInt8) == s.toList) = false := by rw [ByteArray.toList_eq, beq_eq_false_iff_ne]; exact fun e => HO.out.a e.symm
  have g1 : (([100, 111, 110, 116, 107, 110, 111, 119] : List UInt8) == s.toList) = true := by rw [ByteArray.toList_eq, hw1]; rfl
  have HG := qh (show dA s.data.toList = some ⟨1, 1, [], []⟩ by rw [hw1]; rfl)
  clear hw1 Ll
  go_enter Tryz.func171, Tryz.ntmps171
  go_wp2
  rw [← HW.out]
  go_loop [70] (fun i => ∃ k : Nat, k ≤ 1 ∧ i = .int .i64 k) (fun i => 5 - (intOf i).toNat)
  case atStart => exact ⟨0, Nat.zero_le _, rfl⟩
  case round =>
   obtain ⟨k, hk, rfl⟩ := hrel
   have hk2 : k = 0 ∨ k = 1 := by omega
   clear hk
   rcases hk2 with rfl | rfl
   ·
    go_wp2
    go_round
    case rel => exact ⟨1, by omega, by first | rfl | go_num⟩
    case measure => simp [intOf]
   ·
    have aQ : W.cell? ⟨w.heap.size, 0, none⟩ = some (.int .i64 0) := sJ.cell 0
    have eX : W.frozen? ⟨w.heap.size, 0, none⟩ = false := sJ.frozen 0
    have aS : W.cell? ⟨w.heap.size, 1, none⟩ = some (.int .i64 0) := sJ.cell 1
    have eY : W.frozen? ⟨w.heap.size, 1, none⟩ = false := sJ.frozen 1
    have aT : W.cell? ⟨w.heap.size, 2, none⟩ = some (.string ⟨#[]⟩) := sJ.cell 2
    have fD : W.frozen? ⟨w.heap.size, 2, none⟩ = false := sJ.frozen 2
    have aU : W.cell? ⟨w.heap.size, 3, none⟩ = some (.slice none 0 0) := sJ.cell 3
    have fE : W.frozen? ⟨w.heap.size, 3, none⟩ = false := sJ.frozen 3
    go_wp2
    obtain ⟨W9, dI, B9, di⟩ := bG sJ hba (.int .i64 1) (.int .i64 1) (.string ⟨#[]⟩) (.slice none 0 0)
    rw [← dI]
    clear dI
    obtain ⟨iW, qc1, qc2, qc3⟩ := af.c4 B9
    refine bodyPost_ret (v := .tuple #[.agg #[.int .i64 1, .int .i64 1, .string ⟨#[]⟩, .slice none 0 0], .bool true]) (by simp [results, Tryz.results171, go_sem, iW, qc1, qc2, qc3]) rfl ⟨GV.plain 1 1 ⟨#[]⟩ true (by decide) (fun _ => HG.out) (fun h => by cases h), di⟩
 by_cases hw2 : s.data.toList = OD
 ·
  have g0 : (([] : List UInt8) == s.toList) = false := by rw [ByteArray.toList_eq, beq_eq_false_iff_ne]; exact fun e => HO.out.a e.symm
  have g1 : (([100, 111, 110, 116, 107, 110, 111, 119] : List UInt8) == s.toList) = false := by rw [ByteArray.toList_eq, beq_eq_false_iff_ne]; exact fun e => hw1 e.symm
  have g2 : (([114, 101, 102, 117, 115, 101, 100] : List UInt8) == s.toList) = true := by rw [ByteArray.toList_eq, hw2]; rfl
  have HG := qh (show dA s.data.toList = some ⟨1, 2, [], []⟩ by rw [hw2]; rfl)
  clear hw1 hw2 Ll
  go_enter Tryz.func171, Tryz.ntmps171
  go_wp2
  rw [← HW.out]
  go_loop [70] (fun i => ∃ k : Nat, k ≤ 2 ∧ i = .int .i64 k) (fun i => 5 - (intOf i).toNat)
  case atStart => exact ⟨0, Nat.zero_le _, rfl⟩
  case round =>
   obtain ⟨k, hk, rfl⟩ := hrel
   have hk2 : k = 0 ∨ k = 1 ∨ k = 2 := by omega
   clear hk
   rcases hk2 with rfl | rfl | rfl
   ·
    go_wp2
    go_round
    case rel => exact ⟨1, by omega, by first | rfl | go_num⟩
    case measure => simp [intOf]
   ·
    go_wp2
    go_round
    case rel => exact ⟨2, by omega, by first | rfl | go_num⟩
    case measure => simp [intOf]
   ·
    have aQ : W.cell? ⟨w.heap.size, 0, none⟩ = some (.int .i64 0) := sJ.cell 0
    have eX : W.frozen? ⟨w.heap.size, 0, none⟩ = false := sJ.frozen 0
    have aS : W.cell? ⟨w.heap.size, 1, none⟩ = some (.int .i64 0) := sJ.cell 1
    have eY : W.frozen? ⟨w.heap.size, 1, none⟩ = false := sJ.frozen 1
    have aT : W.cell? ⟨w.heap.size, 2, none⟩ = some (.string ⟨#[]⟩) := sJ.cell 2
    have fD : W.frozen? ⟨w.heap.size, 2, none⟩ = false := sJ.frozen 2
    have aU : W.cell? ⟨w.heap.size, 3, none⟩ = some (.slice none 0 0) := sJ.cell 3
    have fE : W.frozen? ⟨w.heap.size, 3, none⟩ = false := sJ.frozen 3
    go_wp2
    obtain ⟨W9, dI, B9, di⟩ := bG sJ hba (.int .i64 1) (.int .i64 2) (.string ⟨#[]⟩) (.slice none 0 0)
    rw [← dI]
    clear dI
    obtain ⟨iW, qc1, qc2, qc3⟩ := af.c4 B9
    refine bodyPost_ret (v := .tuple #[.agg #[.int .i64 1, .int .i64 2, .string ⟨#[]⟩, .slice none 0 0], .bool true]) (by simp [results, Tryz.results171, go_sem, iW, qc1, qc2, qc3]) rfl ⟨GV.plain 1 2 ⟨#[]⟩ true (by decide) (fun _ => HG.out) (fun h => by cases h), di⟩
 by_cases hw3 : s.data.toList = OE
 ·
  have g0 : (([] : List UInt8) == s.toList) = false := by rw [ByteArray.toList_eq, beq_eq_false_iff_ne]; exact fun e => HO.out.a e.symm
  have g1 : (([100, 111, 110, 116, 107, 110, 111, 119] : List UInt8) == s.toList) = false := by rw [ByteArray.toList_eq, beq_eq_false_iff_ne]; exact fun e => hw1 e.symm
  have g2 : (([114, 101, 102, 117, 115, 101, 100] : List UInt8) == s.toList) = false := by rw [ByteArray.toList_eq, beq_eq_false_iff_ne]; exact fun e => hw2 e.symm
  have g3 : (([110, 111, 97, 110, 115, 119, 101, 114] : List UInt8) == s.toList) = true := by rw [ByteArray.toList_eq, hw3]; rfl
  have HG := qh (show dA s.data.toList = some ⟨1, 3, [], []⟩ by rw [hw3]; rfl)
  clear hw1 hw2 hw3 Ll
  go_enter Tryz.func171, Tryz.ntmps171
  go_wp2
  rw [← HW.out]
  go_loop [70] (fun i => ∃ k : Nat, k ≤ 3 ∧ i = .int .i64 k) (fun i => 5 - (intOf i).toNat)
  case atStart => exact ⟨0, Nat.zero_le _, rfl⟩
  case round =>
   obtain ⟨k, hk, rfl⟩ := hrel
   have hk2 : k = 0 ∨ k = 1 ∨ k = 2 ∨ k = 3 := by omega
   clear hk
   rcases hk2 with rfl | rfl | rfl | rfl
   ·
    go_wp2
    go_round
    case rel => exact ⟨1, by omega, by first | rfl | go_num⟩
    case measure => simp [intOf]
   ·
    go_wp2
    go_round
    case rel => exact ⟨2, by omega, by first | rfl | go_num⟩
    case measure => simp [intOf]
   ·
    go_wp2
    go_round
    case rel => exact ⟨3, by omega, by first | rfl | go_num⟩
    case measure => simp [intOf]
   ·
    have aQ : W.cell? ⟨w.heap.size, 0, none⟩ = some (.int .i64 0) := sJ.cell 0
    have eX : W.frozen? ⟨w.heap.size, 0, none⟩ = false := sJ.frozen 0
    have aS : W.cell? ⟨w.heap.size, 1, none⟩ = some (.int .i64 0) := sJ.cell 1
    have eY : W.frozen? ⟨w.heap.size, 1, none⟩ = false := sJ.frozen 1
    have aT : W.cell? ⟨w.heap.size, 2, none⟩ = some (.string ⟨#[]⟩) := sJ.cell 2
    have fD : W.frozen? ⟨w.heap.size, 2, none⟩ = false := sJ.frozen 2
    have aU : W.cell? ⟨w.heap.size, 3, none⟩ = some (.slice none 0 0) := sJ.cell 3
    have fE : W.frozen? ⟨w.heap.size, 3, none⟩ = false := sJ.frozen 3
    go_wp2
    obtain ⟨W9, dI, B9, di⟩ := bG sJ hba (.int .i64 1) (.int .i64 3) (.string ⟨#[]⟩) (.slice none 0 0)
    rw [← dI]
    clear dI
    obtain ⟨iW, qc1, qc2, qc3⟩ := af.c4 B9
    refine bodyPost_ret (v := .tuple #[.agg #[.int .i64 1, .int .i64 3, .string ⟨#[]⟩, .slice none 0 0], .bool true]) (by simp [results, Tryz.results171, go_sem, iW, qc1, qc2, qc3]) rfl ⟨GV.plain 1 3 ⟨#[]⟩ true (by decide) (fun _ => HG.out) (fun h => by cases h), di⟩
 have g0 : (([] : List UInt8) == s.toList) = false := by rw [ByteArray.toList_eq, beq_eq_false_iff_ne]; exact fun e => HO.out.a e.symm
 have g1 : (([100, 111, 110, 116, 107, 110, 111, 119] : List UInt8) == s.toList) = false := by rw [ByteArray.toList_eq, beq_eq_false_iff_ne]; exact fun e => hw1 e.symm
 have g2 : (([114, 101, 102, 117, 115, 101, 100] : List UInt8) == s.toList) = false := by rw [ByteArray.toList_eq, beq_eq_false_iff_ne]; exact fun e => hw2 e.symm
 have g3 : (([110, 111, 97, 110, 115, 119, 101, 114] : List UInt8) == s.toList) = false := by rw [ByteArray.toList_eq, beq_eq_false_iff_ne]; exact fun e => hw3 e.symm
 have HG := qh (Ll.out hw1 hw2 hw3)
 clear hw1 hw2 hw3 Ll
 go_enter Tryz.func171, Tryz.ntmps171
 go_wp2
 rw [← HW.out]
 go_loop [70] (fun i => ∃ k : Nat, k ≤ 4 ∧ i = .int .i64 k) (fun i => 5 - (intOf i).toNat)
 case atStart => exact ⟨0, Nat.zero_le _, rfl⟩
 case round =>
  obtain ⟨k, hk, rfl⟩ := hrel
  have hk2 : k = 0 ∨ k = 1 ∨ k = 2 ∨ k = 3 ∨ k = 4 := by omega
  clear hk
  rcases hk2 with rfl | rfl | rfl | rfl | rfl
  ·
   go_wp2
   go_round
   case rel => exact ⟨1, by omega, by first | rfl | go_num⟩
   case measure => simp [intOf]
  ·
   go_wp2
   go_round
   case rel => exact ⟨2, by omega, by first | rfl | go_num⟩
   case measure => simp [intOf]
  ·
   go_wp2
   go_round
   case rel => exact ⟨3, by omega, by first | rfl | go_num⟩
   case measure => simp [intOf]
  ·
   go_wp2
   go_round
   case rel => exact ⟨4, by omega, by first | rfl | go_num⟩
   case measure => simp [intOf]
  ·
   obtain ⟨K, N, ok, hv, hq1, hq2⟩ := Fq 2 (jL s.data.toList)
   have HV := qh hv
   have HQ := qh (show (ok = true → dA s.data.toList = some ⟨K, N, [], []⟩) ∧ (ok = false → dA s.data.toList = none) from ⟨fun h => by rw [HG.out]; obtain ⟨e1, e2⟩ := hq1 h; rw [e2, e1]; rfl, fun h => by rw [HG.out, hq2 h]; rfl⟩)
   clear hv hq1 hq2
   go_wp2_with fail
   refine (AB s W hs (HM.out.below hba)).mono ?_
   rw [HV.out]
   rintro e w1 ⟨rfl, hb1⟩
   have B0 := sJ.below hb1 sJ.lt
   have hbw := hba.trans (hb1.mono hba.size)
   clear hb1
   obtain ⟨aQ, eX, aS, eY, aT, fD, aU, fE⟩ := af.z4 B0
   go_wp2
   obtain ⟨W9, dI, B9, di⟩ := bG B0 hbw (.int .i64 K) (.int .i64 N) (.string ⟨#[]⟩) (.slice none 0 0)
   rw [← dI]
   clear dI
   obtain ⟨iW, qc1, qc2, qc3⟩ := af.c4 B9
   refine bodyPost_ret (v := .tuple #[.agg #[.int .i64 K, .int .i64 N, .string ⟨#[]⟩, .slice none 0 0], .bool ok]) (by simp [results, Tryz.results171, go_sem, iW, qc1, qc2, qc3]) rfl ⟨GV.plain K N ⟨#[]⟩ ok (by decide) HQ.out.1 HQ.out.2, di⟩
end Go.Proofs.YtobanldeicclmaaGreatDoor
