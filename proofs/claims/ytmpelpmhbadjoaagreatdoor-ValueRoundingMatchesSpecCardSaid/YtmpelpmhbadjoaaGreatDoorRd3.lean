/- Decimal, of the program and of the reference: the text of a rounded ratio. -/
import Derived.Test.YtmpelpmhbadjoaaGreatDoorRd2
import Derived.Outline
namespace Go.Proofs.YtmpelpmhbadjoaaGreatDoor
open Go.RowKit Limb Dig Rtx

def decV (p : List UInt8 × Nat) : Value := .tuple #[.string ⟨p.1.toArray⟩, .int .i64 (p.2 : Nat)]
theorem str_of {t : ByteArray} {l : List UInt8} (h : t.data.toList = l) : Value.string t = .string ⟨l.toArray⟩ := by subst h; rfl
theorem decV_of {p : List UInt8 × Nat} {t : ByteArray} {k : Nat} (h1 : t.data.toList = p.1) (h2 : p.2 = k) : Value.tuple #[.string t, .int .i64 (k : Nat)] = decV p := by
  unfold decV
  rw [← h2, str_of h1]
theorem decL_len (l : List Nat) (h : Small l) : (decL l).length ≤ 9 * l.length + 1 := by
  unfold decL
  split
  · simp
  · have := (List.dropWhile_sublist (fun b : UInt8 => b == 48) (l := allD l)).length_le
    rw [(allD_val l h).2] at this
    omega
def lenOf (v : Value) : Nat := match v with
  | .string t => t.size
  | _ => 0
theorem Rep.dlen {w : World} {L x : Nat} {v : Value} (h : Rep w L v x) : (decS x).length ≤ 9 * L + 1 := by
  obtain ⟨l, A, c, rfl, hs, ht, hv, hr, hc, hcm, hlL⟩ := h.ex
  rw [← decS_of hs ht hv]
  have := decL_len l hs
  omega
theorem RepI.dlen {w : World} {L x : Nat} {v : Value} (h : RepI w L v x) : (decS x).length ≤ 9 * L + 1 := by
  obtain ⟨l, A, c, rfl, hs, ht, hv, hr, hc, hcm, hlL⟩ := h.ex
  rw [← decS_of hs ht hv]
  have := decL_len l hs
  omega
theorem big_neg (b : Bool) (x y : Nat) (hy : 0 < y) : bigR (ratQ b x y) ↔ bigR (ratQ false x y) := by
  obtain ⟨h1, h2, -⟩ := ratQ_low b x y hy
  obtain ⟨k1, k2, -⟩ := ratQ_low false x y hy
  unfold bigR denS
  rw [h1, h2, k1, k2]
theorem outR_code (q : Rat) : (bigR q → (outR q).2 = 2) ∧ (¬ bigR q → (outR q).2 = 0) := by
  unfold outR
  exact ⟨fun h => by rw [if_pos h], fun h => by rw [if_neg h]⟩
theorem outV_code {q : Rat} {S1 S2 : ByteArray} {k : Int} (h : outV (outR q) = .tuple #[.agg #[.string S1, .string S2], .int .i64 k]) : k = ((outR q).2 : Nat) := by
  unfold outV at h
  injection h with h
  have h := congrArg Array.toList h
  simp only [List.cons.injEq, Value.int.injEq, and_true, true_and] at h
  exact h.2.symm
theorem decR_flt {a : R} {p : Int} (h : rndF a p ≠ 0) : decR a p = ([], rndF a p) := if_pos h
theorem decR_big {a : R} {p : Int} (h : rndF a p = 0) (hb : bigR (rndQ a p.toNat)) : decR a p = ([], 2) := by unfold decR; rw [if_neg (by simp [h]), if_pos hb]
theorem decR_ok {a : R} {p : Int} (h : rndF a p = 0) (hb : ¬ bigR (rndQ a p.toNat)) : decR a p = (decT (negS a p.toNat) (scaleR a p.toNat) p.toNat, 0) := by unfold decR; rw [if_neg (by simp [h]), if_neg hb]
theorem put_pos {s : List UInt8} {n : Nat} (h : 0 < n) : putT s n = s.take (s.length - n) ++ [46] ++ s.drop (s.length - n) := if_pos h
theorem put_zero {s : List UInt8} {n : Nat} (h : n = 0) : putT s n = s := if_neg (by omega)
theorem toList_app (a b : ByteArray) : (a ++ b).data.toList = a.data.toList ++ b.data.toList := by rw [ByteArray.data_append, Array.toList_append]
theorem toList_ext (a : ByteArray) (i j : Nat) : (a.extract i j).data.toList = (a.data.toList.take j).drop i := by
  rw [ByteArray.data_extract, Array.toList_extract, List.extract_eq_take_drop, List.drop_take]
theorem pad_size {t : ByteArray} {q n : Nat} (h : t.data.toList = padT q n) : t.size = max (n + 1) (decS q).length := by
  have : t.data.toList.length = max (n + 1) (decS q).length := by rw [h]; simp [padT, zeros]; omega
  exact this
/-- the text with its point in it -/
theorem put_str {t : ByteArray} {k : Nat} (hk : k ≤ t.size) : ((t.extract 0 (t.size - k) ++ (⟨#[46]⟩ : ByteArray)) ++ t.extract (t.size - k) t.size).data.toList = t.data.toList.take (t.data.toList.length - k) ++ [46] ++ t.data.toList.drop (t.data.toList.length - k) := by
  rw [toList_app, toList_app, toList_ext, toList_ext, List.drop_zero, show List.take t.size t.data.toList = t.data.toList from List.take_of_length_le (Nat.le_refl _)]
  rfl
set_option maxHeartbeats 4000000 in
set_option maxRecDepth 100000 in
theorem Decimal_any (n d : ByteArray) (p : Int) (w : World) (hn : n.size ≤ maxLen) (hd : d.size ≤ maxLen) (htab : Tab w) :
    Calls Tryz.prog 19 #[.agg #[.string n, .string d], .int .i64 p] w fun e w' => e = .returned (decV (decR (rx n d) p)) ∧ Below w.heap.size w w' := by
  have HT := Lib.hid htab
  clear htab
  go_enter Tryz.func19, Tryz.ntmps19
  go_wp2_with fail
  obtain ⟨W, hW⟩ : ∃ W, W = (w.alloc (.cells #[.string n, .string d] 23 (0, 0))) := ⟨_, rfl⟩
  have hbw : Below w.heap.size w W := by rw [hW]; exact ((Below.refl _ w).alloc (Nat.le_refl _) _)
  have B0 : Blk W (w.heap.size) 23 #[.string n, .string d] := by
    rw [hW]
    have := Blk.new w 23 #[.string n, .string d]
    exact this
  have hsz : W.heap.size = w.heap.size + 1 := by rw [hW]; simp
  rw [← hW]
  clear hW
  refine (scaled_any n d p W hn hd).mono ?_
  rintro e w1 ⟨⟨bu, A1, n1, c1, A2, n2, c2, rfl, hu⟩, hb1⟩
  have HU := Lib.hid hu
  clear hu
  have hbw := hbw.trans (hb1.mono hbw.size)
  have hs1 := hb1.size
  obtain ⟨f, hf⟩ : ∃ f, rndF (rx n d) p = f := ⟨_, rfl⟩
  have HF := Lib.hid hf
  rw [hf]
  clear hf hb1
  go_upto_region 2 with (fail)
  obtain ⟨W2, hW2⟩ : ∃ W2, W2 = w1.alloc (.cells #[.bool bu, .slice A1 n1 c1, .slice A2 n2 c2] 47 (0, 0)) := ⟨_, rfl⟩
  have hb2 : Below w1.heap.size w1 W2 := hW2 ▸ (Below.refl _ w1).alloc (Nat.le_refl _) _
  have B3 : Blk W2 w1.heap.size 47 #[.bool bu, .slice A1 n1 c1, .slice A2 n2 c2] := by
    rw [hW2]
    exact Blk.new w1 47 #[.bool bu, .slice A1 n1 c1, .slice A2 n2 c2]
  rw [← hW2]
  clear hW2
  have hbw := hbw.trans (hb2.mono hbw.size)
  by_cases h0 : f = 0
  rotate_left
  · have hne : (((f : Nat) : Int) != 0) = true := by simp; omega
    have HE := Lib.hid (decR_flt (a := rx n d) (p := p) (by rw [HF.out]; exact h0))
    go_wp2
    go_ret2
    exact ⟨ret_val (decV_of (by rw [HE.out]) (by rw [HE.out]; exact HF.out)), hbw⟩
  subst h0
  obtain ⟨e1, g1⟩ := (HU.out.below hb2).ok HF.out
  obtain ⟨hp1, hp2⟩ := rnd_range HF.out
  have HG := Lib.hid g1
  have HE1 := Lib.hid e1
  have hD : 0 < 10 ^ p.toNat := Nat.pow_pos (by omega)
  obtain ⟨x, hx⟩ : ∃ x, scaleR (rx n d) p.toNat = x := ⟨_, rfl⟩
  have HX := Lib.hid hx
  rw [hx] at HG
  have HQ := Lib.hid (show bigR (rndQ (rx n d) p.toNat) ↔ bigR (ratQ false x (10 ^ p.toNat)) by
    unfold rndQ
    rw [HX.out]
    exact big_neg _ _ _ hD)
  clear g1 e1 hb2 HU hx
  have uc0 : W2.cell? ⟨w1.heap.size, 0, none⟩ = some (.bool bu) := B3.cell 0
  have uc1 : W2.cell? ⟨w1.heap.size, 1, none⟩ = some (.slice A1 n1 c1) := B3.cell 1
  have uc2 : W2.cell? ⟨w1.heap.size, 2, none⟩ = some (.slice A2 n2 c2) := B3.cell 2
  obtain ⟨kk, hkk⟩ : ∃ kk, (outR (ratQ false x (10 ^ p.toNat))).2 = kk := ⟨_, rfl⟩
  have HKK := Lib.hid hkk
  have HTW := Lib.hid (HT.out.below hbw)
  clear hkk
  have hq0 : Below W2.heap.size W2 W2.drew := (Below.refl _ _).drew
  go_upto_region 4 with (fail)
  go_cut [9] (fun v wx => v = .int .i64 ((kk : Nat) : Int) ∧ Below W2.heap.size W2 wx)
  case first =>
    go_region_held3 (fun w' => w'.cell? ⟨w1.heap.size, 1, none⟩ = some (.slice A1 n1 c1) ∧ Below W2.heap.size W2 w')
      ((refine (fun h => ⟨Below.cell_of h uc1, h⟩) (?_ : Below W2.heap.size W2 _); (repeat' (first | with_reducible exact hq2 | with_reducible exact hq1 | with_reducible exact hq0 | with_reducible exact Below.refl _ _ | with_reducible refine belA ?_ _ | with_reducible refine Below.drew ?_ | with_reducible refine Below.store2 ?_ (by first | exact hq2.size | exact hq1.size | exact Nat.le_refl _ | (have := hq2.size; omega) | (have := hq1.size; omega)) _ _))))
      (first
        | (go_at_call 44; refine (power10_any p _ hp1 hp2).mono ?_; rintro e w5 ⟨⟨Ap, np, cp, rfl, hp⟩, hb4⟩; have hq1 : Below W2.heap.size W2 w5 := (by first | exact hq0.trans (hb4.mono hq0.size) | exact (belA hq0 _).trans (hb4.mono (belA hq0 _).size)); obtain ⟨hcA, hfA⟩ := bcell hb4; (try have hy1 : W2.heap.size < w5.heap.size := (by have h := hb4.size; (try simp at h); omega)))
        | (go_at_call 25; refine (ratio_q _ 700 x (10 ^ p.toNat) _ false _ ⟨⟨_, _, rfl, HG.out.below (by first | exact hq1 | exact belA hq1 _), (hp.mono (by omega)).below (by first | exact Below.refl _ _ | exact belA (Below.refl _ _) _), hD⟩⟩ rfl (by omega) (HTW.out.below (by first | exact hq1 | exact belA hq1 _))).mono ?_; rintro e w6 ⟨⟨S1, S2, k, rfl, hout⟩, hb6⟩; have hq2 : Below W2.heap.size W2 w6 := (by first | exact hq1.trans (hb6.mono hq1.size) | exact (belA hq1 _).trans (hb6.mono (belA hq1 _).size)); obtain ⟨hcB, hfB⟩ := bcell hb6; (try have hy2 : W2.heap.size < w6.heap.size := (by have h := hb6.size; (try simp at h); omega)); (try have hy3 : w5.heap.size < w6.heap.size := (by have h := hb6.size; (try simp at h); omega))))
    all_goals
      go_wp2_with (fail)
      go_meet
      refine ⟨by rw [outV_code hout, HKK.out], ?_⟩
      (repeat' (first | with_reducible exact hq2 | with_reducible exact hq1 | with_reducible exact hq0 | with_reducible exact Below.refl _ _ | with_reducible refine belA ?_ _ | with_reducible refine Below.drew ?_ | with_reducible refine Below.store2 ?_ (by first | exact hq2.size | exact hq1.size | exact Nat.le_refl _ | (have := hq2.size; omega) | (have := hq1.size; omega)) _ _))
  case rest =>
  obtain ⟨rfl, hbc⟩ := hcut
  have B3 := B3.below hbc B3.lt
  have HG := Lib.hid (HG.out.below hbc)
  have hbw := hbw.trans (hbc.mono hbw.size)
  clear hbc uc0 uc1 uc2 hq0 HTW
  have uc0 : wc.cell? ⟨w1.heap.size, 0, none⟩ = some (.bool bu) := B3.cell 0
  have uc1 : wc.cell? ⟨w1.heap.size, 1, none⟩ = some (.slice A1 n1 c1) := B3.cell 1
  have uc2 : wc.cell? ⟨w1.heap.size, 2, none⟩ = some (.slice A2 n2 c2) := B3.cell 2
  by_cases hbig : bigR (ratQ false x (10 ^ p.toNat))
  · have hk2 : kk = 2 := HKK.out.symm.trans ((outR_code _).1 hbig)
    subst hk2
    have HE := Lib.hid (decR_big HF.out (HQ.out.2 hbig))
    clear hbig
    go_wp2
    go_ret2
    exact ⟨ret_val (decV_of (by rw [HE.out]) (by rw [HE.out])), hbw⟩
  have hk2 : kk = 0 := HKK.out.symm.trans ((outR_code _).2 hbig)
  subst hk2
  have HE := Lib.hid (decR_ok HF.out (fun h => hbig (HQ.out.1 h)))
  clear hbig
  go_wp2_with fail
  refine (digits_any 700 x _ wc HG.out (by omega) (HT.out.below hbw)).mono ?_
  rintro e w7 ⟨rfl, hb7⟩
  obtain ⟨t0, ht0⟩ : ∃ t : ByteArray, t = ⟨(decS x).toArray⟩ := ⟨_, rfl⟩
  obtain ⟨L, hL⟩ : ∃ L, (decS x).length = L := ⟨_, rfl⟩
  have HT0 := Lib.hid (show t0.data.toList = decS x by rw [ht0])
  have hL1 : L ≤ 7000 := by have := HG.out.dlen; omega
  have hL0 : 1 ≤ L := by
    rcases Nat.eq_zero_or_pos L with h | h
    · rw [h] at hL; exact absurd (List.eq_nil_of_length_eq_zero hL) (decS_sound x).2.1
    · exact h
  rw [← ht0]
  have HL := Lib.hid hL
  have B3 := B3.below hb7 B3.lt
  have hbw := hbw.trans (hb7.mono hbw.size)
  clear ht0 hL hb7 uc0 uc1 uc2 HG HT
  have uc0 : w7.cell? ⟨w1.heap.size, 0, none⟩ = some (.bool bu) := B3.cell 0
  have uc1 : w7.cell? ⟨w1.heap.size, 1, none⟩ = some (.slice A1 n1 c1) := B3.cell 1
  have uc2 : w7.cell? ⟨w1.heap.size, 2, none⟩ = some (.slice A2 n2 c2) := B3.cell 2
  go_wp2_with (fail)
  go_loop [10] (fun s => ∃ (t : ByteArray) (k : Nat), s = .string t ∧ Hid (t.data.toList = zeros k ++ decS x) ∧ k ≤ p.toNat + 1 - L) (fun s => p.toNat + 1 - lenOf s)
  case atStart => exact ⟨t0, 0, rfl, Lib.hid HT0.out, Nat.zero_le _⟩
  case round =>
    obtain ⟨t, k, rfl, HTT, hk⟩ := hrel
    have hsz : t.size = k + L := by
      have : t.data.toList.length = k + L := by rw [HTT.out]; simp [zeros, HL.out]
      exact this
    have hs1 : t.size ≤ k + L := by omega
    have hs2 : k + L ≤ t.size := by omega
    clear hsz
    by_cases hlt : (t.size : Int) ≤ p
    · go_wp2_with (fail)
      go_round
      case rel =>
        refine ⟨⟨#[48]⟩ ++ t, k + 1, rfl, Lib.hid ?_, by omega⟩
        rw [toList_app, HTT.out, show zeros (k + 1) = 48 :: zeros k from rfl]
        rfl
      case measure =>
        have : (⟨#[48]⟩ ++ t : ByteArray).size = t.size + 1 := by rw [ByteArray.size_append]; show 1 + t.size = _; omega
        simp [lenOf, this]
        omega
    · have HTP := Lib.hid (show t.data.toList = padT x p.toNat by
        rw [HTT.out]
        unfold padT
        rw [HL.out, show k = p.toNat + 1 - L by (have h := Int.toNat_of_nonneg hp1; generalize p.toNat = P at h hk ⊢; omega)])
      clear HTT HT0 HL
      by_cases hp0 : 0 < p
      · have hb0 : p ≤ t.size := by omega
        have hb1 : (0 : Int) ≤ (t.size : Int) - p := by omega
        have hb2 : (t.size : Int) - p ≤ t.size := by omega
        have hb3 : t.size ≤ 8000 := by omega
        go_upto_region 11 with (fail)
        go_quiet (fail)
        obtain ⟨t2, ht2⟩ : ∃ t2, t.extract 0 ((t.size : Int) - p).toNat ++ (⟨#[46]⟩ : ByteArray) ++ t.extract ((t.size : Int) - p).toNat t.size = t2 := ⟨_, rfl⟩
        have HT2 := Lib.hid (show t2.data.toList = putT (padT x p.toNat) p.toNat by
          rw [← ht2, show ((t.size : Int) - p).toNat = t.size - p.toNat by omega, put_pos (by omega), ← HTP.out]
          exact put_str (by omega))
        have hb4 : t2.size ≤ 9000 := by
          rw [← ht2, ByteArray.size_append, ByteArray.size_append, ByteArray.size_extract, ByteArray.size_extract]
          show _ + 1 + _ ≤ _
          omega
        rw [ht2]
        clear ht2
        have uc0 : (w7.drewN nq).cell? ⟨w1.heap.size, 0, none⟩ = some (.bool bu) := uc0
        cases bu
        · go_wp2
          go_ret2
          exact ⟨ret_val (decV_of (by rw [HE.out]; exact HT2.out.trans (by unfold decT; rw [← HE1.out]; simp [HX.out])) (by rw [HE.out])), hbw.drewN _⟩
        · go_wp2
          go_ret2
          exact ⟨ret_val (decV_of (by rw [HE.out, toList_app]; show _ = decT _ _ _; unfold decT; rw [← HE1.out, HT2.out, HX.out]; rfl) (by rw [HE.out])), hbw.drewN _⟩
      · have hp00 : p.toNat = 0 := by omega
        have HT2 := Lib.hid (show t.data.toList = putT (padT x p.toNat) p.toNat by rw [put_zero hp00]; exact HTP.out)
        have hb3 : t.size ≤ 8000 := by omega
        clear hp00
        cases bu
        · go_wp2
          go_ret2
          exact ⟨ret_val (decV_of (by rw [HE.out]; exact HT2.out.trans (by unfold decT; rw [← HE1.out]; simp [HX.out])) (by rw [HE.out])), hbw⟩
        · go_wp2
          go_ret2
          exact ⟨ret_val (decV_of (by rw [HE.out, toList_app]; show _ = decT _ _ _; unfold decT; rw [← HE1.out, HT2.out, HX.out]; rfl) (by rw [HE.out])), hbw⟩
end Go.Proofs.YtmpelpmhbadjoaaGreatDoor
