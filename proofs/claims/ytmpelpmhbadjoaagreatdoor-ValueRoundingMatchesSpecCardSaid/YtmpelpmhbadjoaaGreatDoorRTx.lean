/- The reference's texts of naturals: number, zeros, text, readNatural. -/
import Derived.Test.YtmpelpmhbadjoaaGreatDoorRN4
import Derived.Test.YtmpelpmhbadjoaaGreatDoorTxt4
import Derived.Lib.SmallJoins
namespace Go.Proofs.YtmpelpmhbadjoaaGreatDoor
open Go.RowKit Limb Dig RefN

set_option maxHeartbeats 1000000 in
set_option maxRecDepth 100000 in
theorem number_any (s : ByteArray) (w : World) (hs : s.size ≤ maxLen) :
    Calls Tryz.prog 30 #[.string s] w fun e w' => IsB e (Sound s.data.toList) ∧ w = w' := by
  unfold maxLen at hs
  have hsl : s.data.toList.length = s.size := rfl
  by_cases h0 : s.size = 0
  · have he : s.data.toList = [] := List.eq_nil_of_length_eq_zero (by rw [hsl]; exact h0)
    have es : s = ⟨#[]⟩ := ba_of he
    clear hsl he h0
    subst es
    go_enter Tryz.func30, Tryz.ntmps30
    go_wp2
    go_ret
    exact ⟨⟨⟨_, rfl, by simp [sound_nil]⟩⟩, rfl⟩
  have hne : s.data.toList ≠ [] := fun e => h0 (by rw [← hsl, e]; rfl)
  have se : s.toList.isEmpty = false := by rw [ByteArray.toList_eq]; simpa using hne
  have hp : 0 < s.size := by omega
  have hh : s.data.toList.head? = some s[0] := by
    rw [List.head?_eq_getElem?, List.getElem?_eq_getElem (by rw [hsl]; exact hp)]
    rfl
  have HNE := Lib.hid hne
  have HH := Lib.hid hh
  clear hne hh
  by_cases hbad : s[0] = 48 ∧ s ≠ ⟨#[48]⟩
  · have hb1 : (((s[0].toNat : Nat) : Int) == 48) = true := by rw [hbad.1]; rfl
    have s2 : (s.toList == [48]) = false := by
      rw [ByteArray.toList_eq, beq_eq_false_iff_ne]
      exact fun e => hbad.2 (ba_of e)
    have HF := Lib.hid (show ¬ Sound s.data.toList from fun h => by
      rcases h.2.2 with h3 | h3
      · exact h3 (by rw [HH.out, hbad.1])
      · exact hbad.2 (ba_of h3))
    clear hbad h0
    go_enter Tryz.func30, Tryz.ntmps30
    go_wp2
    go_ret
    exact ⟨⟨⟨_, rfl, by simp [HF.out]⟩⟩, rfl⟩
  have HG := Lib.hid (show s.data.toList.head? ≠ some 48 ∨ s.data.toList = [48] by
    by_cases h1 : s[0] = 48
    · exact .inr (by rw [show s = ⟨#[48]⟩ from Classical.byContradiction fun h => hbad ⟨h1, h⟩])
    · exact .inl (by rw [HH.out]; exact fun e => h1 (Option.some.inj e)))
  have hc : ((((s[0].toNat : Nat) : Int) == 48) = false) ∨ ((((s[0].toNat : Nat) : Int) == 48) = true ∧ (s.toList == [48]) = true) := by
    by_cases h1 : s[0] = 48
    · have e : s = ⟨#[48]⟩ := Classical.byContradiction fun h => hbad ⟨h1, h⟩
      exact .inr ⟨by rw [h1]; rfl, by rw [ByteArray.toList_eq, e]; rfl⟩
    · refine .inl ?_
      rw [beq_eq_false_iff_ne]
      intro e
      exact h1 (UInt8.toNat_inj.1 (by show s[0].toNat = 48; omega))
  clear hbad h0
  go_enter Tryz.func30, Tryz.ntmps30
  go_upto_region 1 with (fail)
  go_cut [14] (fun r wx => r = .bool false ∧ wx = w)
  case first =>
    rcases hc with h1 | ⟨h1, h2⟩
    all_goals
      go_wp2_with (fail)
      go_meet
      exact ⟨rfl, rfl⟩
  case rest =>
  obtain ⟨rfl, rfl⟩ := hcut
  clear hc
  go_wp2
  go_loop [17, 3] (fun i _ => ∃ k : Nat, k ≤ s.size ∧ i = .int .i64 (k : Int) ∧ ∀ b ∈ s.data.toList.take k, isDig b) (fun i _ => s.size - (intOf i).toNat)
  case atStart => exact ⟨0, Nat.zero_le _, rfl, by simp⟩
  case round =>
    obtain ⟨k, hk, rfl, hd⟩ := hrel
    have HD := Lib.hid hd
    clear hd
    by_cases hlt : k < s.size
    · have hm : s[k] ∈ s.data.toList := by
        have : s[k] = s.data.toList[k]'(by rw [hsl]; exact hlt) := rfl
        rw [this]
        exact List.getElem_mem _
      have HM := Lib.hid hm
      clear hm
      by_cases h1 : ((s[k].toNat : Nat) : Int) < 48
      · have HF := Lib.hid (show ¬ Sound s.data.toList from fun h => by have := h.1 _ HM.out; unfold isDig at this; omega)
        go_wp2
        go_ret
        exact ⟨⟨⟨_, rfl, by simp [HF.out]⟩⟩, rfl⟩
      · by_cases h2 : 57 < ((s[k].toNat : Nat) : Int)
        · have HF := Lib.hid (show ¬ Sound s.data.toList from fun h => by have := h.1 _ HM.out; unfold isDig at this; omega)
          go_wp2
          go_ret
          exact ⟨⟨⟨_, rfl, by simp [HF.out]⟩⟩, rfl⟩
        · have HN := Lib.hid (show ∀ b ∈ s.data.toList.take (k + 1), isDig b by
            intro b hb
            rw [List.take_succ_eq_append_getElem (by rw [hsl]; exact hlt)] at hb
            rcases List.mem_append.1 hb with hb | hb
            · exact HD.out b hb
            · rw [List.mem_singleton.1 hb]
              have : s.data.toList[k]'(by rw [hsl]; exact hlt) = s[k] := rfl
              rw [this]
              unfold isDig
              omega)
          go_wp2
          go_round
          case rel => exact ⟨k + 1, by omega, by go_num, HN.out⟩
          case measure => simp [intOf]; omega
    · have HF := Lib.hid (show Sound s.data.toList from ⟨by
        have := HD.out
        rwa [List.take_of_length_le (by omega)] at this, HNE.out, HG.out⟩)
      go_wp2
      go_ret
      exact ⟨⟨⟨_, rfl, by simp [HF.out]⟩⟩, rfl⟩

theorem hp_is (s p : ByteArray) (b : Bool) (w : World) (h : Lib.hasPrefix s.data.toList p.data.toList = b) :
    Calls Tryz.prog 68 #[.string s, .string p] w fun e w' => e = .returned (.bool b) ∧ w = w' :=
  (Tryz.strings_HasPrefix s p w).mono fun _ _ ⟨he, hw⟩ => ⟨by rw [he, h], hw.symm⟩
theorem zeros_take : ∀ c : Nat, c ≤ 20 → (zeros 64).take c = zeros c := by
  intro c hc
  unfold zeros
  rw [List.take_replicate, Nat.min_eq_left (by omega)]
set_option maxHeartbeats 4000000 in
set_option maxRecDepth 100000 in
theorem repeat0_any (c : Nat) (w : World) (hc : c ≤ 20) :
    Calls Tryz.prog 49 #[.string ⟨#[48]⟩, .int .i64 (c : Int)] w fun e w' => e = .returned (.string ⟨(zeros c).toArray⟩) ∧ Below w.heap.size w w' := by
  by_cases h0 : c = 0
  · subst h0
    go_enter Tryz.func49, Tryz.ntmps49
    go_wp2
    go_ret
    exact ⟨rfl, Below.refl _ _⟩
  by_cases h1 : c = 1
  · subst h1
    go_enter Tryz.func49, Tryz.ntmps49
    go_wp2
    go_ret
    exact ⟨rfl, Below.refl _ _⟩
  have e0 : (((c : Nat) : Int) == 0) = false := by simp; omega
  have e1 : (((c : Nat) : Int) == 1) = false := by simp; omega
  have hc2 : 2 ≤ c := by omega
  have HMUL : Hid (Calls Tryz.prog 74 #[.int .u64 1, .int .u64 (c : Int)] w fun e w' => e = .returned (.tuple #[.int .u64 0, .int .u64 (c : Int)]) ∧ w = w') := by
    have h := Tryz.bits_Mul 1 c (by omega) (by omega) w
    rw [Nat.one_mul, Nat.div_eq_of_lt (by omega), Nat.mod_eq_of_lt (by omega)] at h
    exact Lib.hid (h.mono fun _ _ ⟨a, b⟩ => ⟨a, b.symm⟩)
  clear h0 h1
  go_enter Tryz.func49, Tryz.ntmps49
  go_wp2_with fail
  refine HMUL.out.mono ?_
  rintro e w1 ⟨rfl, rfl⟩
  go_wp2_with (go_at_call 68; (first | (refine (hp_is _ _ false _ (by decide +kernel)).mono ?_) | (refine (hp_is _ _ true _ (by decide +kernel)).mono ?_)); rintro e w' ⟨rfl, rfl⟩)
  go_ret
  refine ⟨ret_val (congrArg Value.string ?_), Below.refl _ _⟩
  apply ba_of
  rw [ByteArray.data_extract, Array.toList_extract, List.extract_eq_take_drop]
  rw [← zeros_take c hc]
  rfl

theorem decFrom_dig (l : List UInt8) (acc : Nat) (h : ∀ b ∈ l, isDig b) : Lib.decFrom acc l = some (acc * 10 ^ l.length + digVal l) := by
  induction l generalizing acc with
  | nil => simp [Lib.decFrom, digVal]
  | cons b l ih =>
    have hb := h b (List.mem_cons.2 (Or.inl rfl))
    unfold isDig at hb
    rw [Lib.decFrom, Lib.digitVal, if_pos hb]
    simp only
    rw [ih _ (fun c hc => h c (List.mem_cons.2 (Or.inr hc))), digVal_cons, List.length_cons, Nat.pow_succ, Nat.add_mul]
    have : acc * 10 * 10 ^ l.length = acc * (10 ^ l.length * 10) := by rw [Nat.mul_assoc, Nat.mul_comm 10]
    congr 1
    omega
theorem atoi_dig {l : List UInt8} (h : ∀ b ∈ l, isDig b) (hn : l ≠ []) : Lib.atoi l = some (digVal l : Int) := by
  cases l with
  | nil => exact absurd rfl hn
  | cons b r =>
    have hb := h b (List.mem_cons.2 (Or.inl rfl))
    unfold isDig at hb
    have h1 : ¬ b = 45 := fun e => by rw [e] at hb; revert hb; decide
    have h2 : ¬ b = 43 := fun e => by rw [e] at hb; revert hb; decide
    unfold Lib.atoi
    simp only [beq_iff_eq, h1, h2, if_false]
    rw [Lib.decNat, if_neg (by simp), decFrom_dig _ _ h]
    simp
set_option maxHeartbeats 2000000 in
set_option maxRecDepth 100000 in
theorem read_any (s : ByteArray) (w : World) (hs : s.size ≤ 100000) (hd : ∀ b ∈ s.data.toList, isDig b) :
    Calls Tryz.prog 32 #[.string s] w fun e w' => (∃ v, e = .returned v ∧ RepI w' (s.size / 9 + 1) v (digVal s.data.toList)) ∧ Below w.heap.size w w' := by
  obtain ⟨i0, hi, hz0, hz1, hz2⟩ := info_parts infoI
  have HD := Lib.hid hd
  clear hd
  go_enter Tryz.func32, Tryz.ntmps32
  go_wp2
  go_loopw [0, 3, 4, 5, 6] (fun ss v _ _ _ wr => ∃ (t : ByteArray) (rest : List UInt8) (out : List Nat), ss = .string t ∧ OfInv s.data.toList t.data.toList rest out ∧ t.size ≤ s.size ∧ out.length ≤ s.size / 9 + 1 ∧ wr.ownsRow w.heap.size 3 1 v out.length (limI out) ∧ Below w.heap.size w wr) (fun ss _ _ _ _ _ => match ss with | .string t => t.size | _ => 0)
  case atStart => exact ⟨s, [], [], rfl, ⟨by simp, rfl, Small.nil, .inl rfl⟩, Nat.le_refl _, by simp, World.ownsRow_nil _ _ _ _, Below.refl _ _⟩
  case round =>
    obtain ⟨t, rest, out, rfl, hinv, hts, hol, hown, hbr⟩ := hrel
    have HI := Lib.hid hinv
    clear hinv
    by_cases h0 : 0 < t.size
    · have hne : t.data.toList ≠ [] := fun e => by have := dsize e; rw [List.length_nil] at this; omega
      have HN := Lib.hid (fun k hk => HI.out.next HD.out hne (k := k) hk)
      have HNE := Lib.hid hne
      clear hne
      obtain ⟨k, hk⟩ : ∃ k, k = t.size - 9 := ⟨_, rfl⟩
      have hkm : max ((t.size : Int) - 9) 0 = (k : Int) := by omega
      have HK := Lib.hid hk
      have hk1 : k < t.size := by omega
      have hk2 : t.size ≤ k + 9 := by omega
      clear hk
      have HO := Lib.hid hown
      clear hown
      have HN1 := Lib.hid (HN.out k HK.out)
      have HX := Lib.hid (show (t.extract 0 k).data.toList = t.data.toList.take k by simp [ByteArray.data_extract, List.extract])
      have HY := Lib.hid (show (t.extract k t.size).data.toList = t.data.toList.drop k by
        rw [ByteArray.data_extract, Array.toList_extract, List.extract_eq_take_drop]
        exact List.take_of_length_le (by rw [List.length_drop]; exact Nat.le_refl _))
      have htl : t.data.toList.length = t.size := rfl
      have HAT := Lib.hid (atoi_dig (l := (t.extract k t.size).data.toList) (fun b hb => HD.out b (by rw [HY.out] at hb; rw [HI.out.eq]; exact List.mem_append.2 (.inl (List.mem_of_mem_drop hb)))) (by rw [HY.out]; intro e; have := congrArg List.length e; rw [List.length_drop] at this; simp at this; omega))
      have hlen : out.length ≤ s.size / 9 := by
        have := HI.out.n
        have e1 := congrArg List.length HI.out.eq
        rw [List.length_append, htl, show s.data.toList.length = s.size from rfl] at e1
        rcases this with h | h
        · omega
        · exact absurd h.1 HNE.out
      go_wp2_with fail
      refine (Tryz.strconv_Atoi _ _ (by have := dsize HY.out; rw [List.length_drop] at this; omega) HAT.out wr).mono ?_
      rw [HY.out]
      obtain ⟨d, ed⟩ : ∃ d, digVal (t.data.toList.drop k) = d := ⟨_, rfl⟩
      rw [ed] at HN1 ⊢
      clear ed HN HAT
      rintro e w1 ⟨rfl, tt, hw1⟩
      have hb1 : Below wr.heap.size wr w1 := hw1 ▸ Joins.below_bytesWorld _ _ _ _ (Nat.le_refl _)
      clear hw1
      have hown : w1.ownsRow w.heap.size 3 1 u3 out.length (limI out) := HO.out.kept (row := none) ⟨hb1.os, hb1.tape, hb1.output, hb1.size, fun k hk _ => hb1.block k hk⟩ (by
        cases hv : u3.ownBlock with
        | none => exact .inl rfl
        | some g => exact .inr (by simp))
      have hbr1 := hbr.trans (hb1.mono hbr.size)
      clear hb1
      go_wp2_with (at_builtin; refine wpList_append_own _ rfl _ _ 50 rfl w.heap.size 3 i0 (.int .i64 0) 1 8 Tryz.underlying50 hi hz0 hz1 hz2 rfl (by decide) _ _ _ rfl (hown.alloc _) ⟨w1.heap.size, 0, none⟩ 1 1 [.int .i64 (d : Int)] rfl rfl ?r1c1 ?r1c2 ?r1c3 ?r1c4 ?r1c5 ?_)
      case r1c1 => intro j u hj; cases j <;> simp_all [go_sem]
      case r1c2 => intro u hu; simp only [List.mem_singleton] at hu; subst hu; rfl
      case r1c3 => unfold maxLen; omega
      case r1c4 => omega
      case r1c5 => have := hbr1.size; simp; omega
      intro v2 w2 hown2 hg2 _
      have hrow : ∀ g, u3.ownBlock = some g → w.heap.size ≤ g := fun g hg => (hown.lt g hg).1
      have hb2 : Below w.heap.size w w2 := (hbr1.alloc hbr1.size _).grown hg2 (by have := hbr1.size; simp; omega) hrow
      have HO2 := Lib.hid (show w2.ownsRow w.heap.size 3 1 v2 (out ++ [d]).length (limI (out ++ [d])) by rw [limI_append, List.length_append]; exact hown2)
      clear hown2 hg2 hrow hown
      have hkt : k ≤ t.size := by omega
      go_wp2
      go_roundw
      case rel => exact ⟨_, _, _, rfl, by rw [HX.out]; exact HN1.out, by rw [dsize HX.out]; simp; omega, by simp; omega, HO2.out, hb2⟩
      case measure =>
        show (t.extract 0 k).size < t.size
        rw [dsize HX.out]
        simp
        omega
    · have ht0 : t.data.toList = [] := List.eq_nil_of_length_eq_zero (by have : t.data.toList.length = t.size := rfl; omega)
      have HV := Lib.hid (show val out = digVal s.data.toList by rw [HI.out.v, HI.out.eq, ht0]; rfl)
      have HS := Lib.hid HI.out.s
      obtain ⟨A, cp, rfl, hr, hc1, hc2⟩ := own_formI hown
      have HC2 := Lib.hid hc2
      have HR0 := Lib.hid hr
      clear hc2 hown hr
      go_wp2_with fail
      refine (rtrim_any _ _ _ _ _ hc1 HC2.out HR0.out).mono ?_
      rintro e w2 ⟨⟨m, hm, rfl, ht, hv⟩, rfl⟩
      have HR := Lib.hid (show RepI wr (s.size / 9 + 1) (.slice A m cp) (digVal s.data.toList) from repI_trim HR0.out hc1 HC2.out hm HS.out ht (hv.trans HV.out) (by omega))
      clear ht hv
      go_wp2
      go_ret
      exact ⟨⟨_, rfl, HR.out⟩, hbr⟩

set_option maxHeartbeats 2000000 in
set_option maxRecDepth 100000 in
theorem text_any (L x : Nat) (v : Value) (w : World) (h : RepI w L v x) (hL : L ≤ 100000) (htab : Tab w) :
    Calls Tryz.prog 33 #[v] w fun e w' => e = .returned (.string ⟨(decS x).toArray⟩) ∧ Below w.heap.size w w' := by
  obtain ⟨l, A, c, rfl, hs, ht, hv, hr, hc, hcm, hlL⟩ := h.ex
  have HX := Lib.hid (decS_of hs ht hv)
  have HT := Lib.hid htab
  have HR := Lib.hid hr
  clear h htab hr hv
  go_enter Tryz.func33, Tryz.ntmps33
  by_cases h0 : l.length = 0
  · have hl0 : l = [] := List.eq_nil_of_length_eq_zero h0
    have HF := Lib.hid (show decS x = [48] by rw [← HX.out, hl0]; rfl)
    rw [h0]
    go_wp2
    go_ret
    refine ⟨?_, Below.refl _ _⟩
    show Ending.returned (.string ⟨#[48]⟩) = _
    rw [HF.out]
  obtain ⟨n, hn⟩ : ∃ n, l.length = n + 1 := ⟨l.length - 1, by omega⟩
  have hnl : n < l.length := by omega
  obtain ⟨y, hy⟩ : ∃ y, l[n] = y := ⟨_, rfl⟩
  have hy1 : y < 1000000000 := by rw [← hy]; exact hs.at_ hnl
  have hy0 : 0 < y := by
    have := ht (by intro e; subst e; simp at hnl)
    rw [List.getLast_eq_getElem] at this
    have e : l.length - 1 = n := by omega
    simp only [e] at this
    omega
  obtain ⟨r, hr0⟩ : ∃ r, r = l.take n := ⟨_, rfl⟩
  have hrl : r.length = n := by rw [hr0, List.length_take]; omega
  have HRS := Lib.hid (show Small r by rw [hr0]; exact hs.take n)
  have HLR := Lib.hid (show l = r ++ [y] by
    rw [hr0, ← hy, ← List.take_succ_eq_append_getElem hnl, List.take_of_length_le (by omega)])
  have HRI := Lib.hid (fun (i : Nat) (hi : i < r.length) => (show ∃ h : i < l.length, l[i] = r[i] from ⟨by omega, by simp only [hr0, List.getElem_take]⟩))
  obtain ⟨ad, hAd, hca⟩ := HR.out.limbI hnl
  subst hAd
  rw [hy] at hca
  have hca : (w.alloc (.cells #[.pointer none, .slice none 0 0] 89 (0, 0))).cell? (ad.add n) = some (.int .i64 (y : Int)) := by
    rw [World.cell?_alloc_lt w _ _ (block_lt_of_cell hca)]
    exact hca
  have hb0 : (((l.length : Nat) : Int) == 0) = false := by rw [beq_eq_false_iff_ne]; omega
  have hni : ((l.length : Nat) : Int) - 1 = (n : Int) := by omega
  have HNN := Lib.hid hn
  have HRL := Lib.hid hrl
  have hrl1 : r.length ≤ n := by omega
  have hrl2 : n ≤ r.length := by omega
  have hnn1 : l.length ≤ n + 1 := by omega
  have hnn2 : n + 1 ≤ l.length := by omega
  clear hy hr0 ht h0 hn hrl
  go_wp2_with fail
  refine (Tryz.strconv_Itoa (y : Int) (by omega) (by omega) _ (HT.out.below ((Below.refl _ w).alloc (Nat.le_refl _) _))).mono ?_
  rintro e w1 ⟨rfl, kk, os, hw1⟩
  have hb1 : Below (w.heap.size + 1) (w.alloc (.cells #[.pointer none, .slice none 0 0] 89 (0, 0))) w1 := by rw [hw1]; exact Lib.below_grow _ _ (by simp) _ _
  have eI : Lib.itoa (y : Int) = Lib.decDigits y := by simp [Lib.itoa]
  rw [eI]
  have hbd := bld_below (bld_new w) (by have e : (w.alloc (.cells #[.pointer none, .slice none 0 0] 89 (0, 0))).heap.size = w.heap.size + 1 := by simp
                                        rw [e]; exact hb1)
  have hbw1 : Below w.heap.size w w1 := ((Below.refl _ w).alloc (Nat.le_refl _) _).trans (hb1.mono (Nat.le_succ _))
  have hs1 := hbw1.size
  have hyl := dec_len 8 y (by simpa using hy1)
  clear hw1 eI hb1
  go_wp2_with fail
  refine (writeString_any w.heap.size w.heap.size _ _ w1 hbd (by rw [Lib.byteCells_length]; have e1 := dsize (t := ⟨(Lib.decDigits y).toArray⟩) (l := Lib.decDigits y) rfl; simp [allD]; omega) hs1).mono ?_
  rintro e w2 ⟨rfl, hb2, hbw⟩
  rw [Lib.strCells_toArray, byteCells_app, show allD [] ++ Lib.decDigits y = Lib.decDigits y ++ allD (r.drop n) by rw [List.drop_of_length_le (by omega)]; simp [allD]] at hb2
  have HB2 := Lib.hid hb2
  have hbw2 := hbw1.trans hbw
  clear hb2 hbd hbw
  go_wp2
  go_loopw [4, 5] (fun s _ wr => ∃ m : Nat, m ≤ n ∧ s = .int .i64 ((m : Int) - 1) ∧ Lib.IsBuilder 89 5 w.heap.size w.heap.size (Lib.byteCells (Lib.decDigits y ++ allD (r.drop m))) wr ∧ Below w.heap.size w wr) (fun s _ _ => (intOf s + 1).toNat)
  case atStart => exact ⟨n, Nat.le_refl _, by congr 1; omega, .inr HB2.out, hbw2⟩
  case round =>
    obtain ⟨m, hm, rfl, hbd, hbr⟩ := hrel
    have HBD := Lib.hid hbd
    clear hbd HB2 hbw2
    by_cases hm0 : 0 < m
    · obtain ⟨i, rfl⟩ : ∃ i, m = i + 1 := ⟨m - 1, by omega⟩
      have ec : ((i + 1 : Nat) : Int) - 1 = (i : Int) := by omega
      rw [ec]
      have hi : i < r.length := by omega
      have hil : i < l.length := by omega
      obtain ⟨ad2, e2, hca2⟩ := (HR.out.below hbr).limbI hil
      injection e2 with e2
      subst e2
      obtain ⟨z, hz⟩ : ∃ z, r[i] = z := ⟨_, rfl⟩
      rw [(HRI.out i hi).2, hz] at hca2
      have hz1 : z < 1000000000 := by rw [← hz]; exact HRS.out.at_ hi
      have HD := Lib.hid (show allD (r.drop i) = allD (r.drop (i + 1)) ++ (zeros (9 - (Lib.decDigits z).length) ++ Lib.decDigits z) by rw [List.drop_eq_getElem_cons hi, allD, hz]; rfl)
      have HLN := Lib.hid (show (allD (r.drop (i + 1))).length ≤ 900000 by
        rw [(allD_val _ (HRS.out.drop (i + 1))).2]
        simp
        omega)
      have hzl := dec_len 8 z (by simpa using hz1)
      have hzp := dec_pos z
      clear hz
      go_wp2_with fail
      refine (Tryz.strconv_Itoa (z : Int) (by omega) (by omega) wr (HT.out.below hbr)).mono ?_
      rintro e w4 ⟨rfl, kk4, os4, hw4⟩
      have hb4 : Below wr.heap.size wr w4 := by rw [hw4]; exact Lib.below_grow _ wr (Nat.le_refl _) _ _
      have eI : Lib.itoa (z : Int) = Lib.decDigits z := by simp [Lib.itoa]
      rw [eI]
      clear hw4 eI
      obtain ⟨tz, etz⟩ : ∃ tz : ByteArray, tz = ⟨(Lib.decDigits z).toArray⟩ := ⟨_, rfl⟩
      rw [← etz]
      have hzs : tz.size = (Lib.decDigits z).length := by rw [etz]; rfl
      obtain ⟨c9, hc9⟩ : ∃ c9, c9 = 9 - tz.size := ⟨_, rfl⟩
      have hc9i : (9 : Int) - (tz.size : Int) = (c9 : Int) := by omega
      have HC9 := Lib.hid (show c9 = 9 - (Lib.decDigits z).length by rw [hc9, hzs])
      have hc9b : c9 ≤ 20 := by omega
      have HTZ := Lib.hid etz
      have HZS := Lib.hid hzs
      have hbr4 := hbr.trans (hb4.mono hbr.size)
      have hbd4 := bld_below HBD.out hb4
      clear hc9 etz hzs hb4
      go_wp2_with fail
      refine (repeat0_any c9 w4 hc9b).mono ?_
      rintro e w5 ⟨rfl, hb5⟩
      have hbr5 := hbr4.trans (hb5.mono hbr4.size)
      have hbd5 := bld_below hbd4 hb5
      have hs5 := hbr5.size
      clear hb5 hbd4
      go_wp2_with fail
      refine (writeString_any w.heap.size w.heap.size _ _ w5 hbd5 (by rw [Lib.byteCells_length, List.length_append]; have e1 : (⟨(zeros c9).toArray⟩ : ByteArray).size = c9 := (dsize (t := ⟨(zeros c9).toArray⟩) (l := zeros c9) rfl).trans List.length_replicate; have := HLN.out; omega) hs5).mono ?_
      rintro e w6 ⟨rfl, hb6, hbw6⟩
      rw [Lib.strCells_toArray, byteCells_app] at hb6
      have HB6 := Lib.hid hb6
      have hbr6 := hbr5.trans hbw6
      have hs6 := hbr6.size
      clear hb6 hbd5 hbw6
      go_wp2_with fail
      refine (writeString_any w.heap.size w.heap.size _ _ w6 (.inr HB6.out) (by rw [Lib.byteCells_length, List.length_append, List.length_append]; have := HLN.out; have := HZS.out; simp [zeros]; omega) hs6).mono ?_
      rintro e w7 ⟨rfl, hb7, hbw7⟩
      rw [HTZ.out, Lib.strCells_toArray, byteCells_app, show (Lib.decDigits y ++ allD (r.drop (i + 1)) ++ zeros c9) ++ Lib.decDigits z = Lib.decDigits y ++ allD (r.drop i) by rw [HD.out, HC9.out]; simp only [List.append_assoc]] at hb7
      have HB7 := Lib.hid hb7
      have hbr7 := hbr6.trans hbw7
      clear hb7 hbw7
      go_wp2
      go_roundw
      case rel => exact ⟨i, by omega, by go_num, .inr HB7.out, hbr7⟩
      case measure => simp [intOf]
    · obtain rfl : m = 0 := by omega
      have hs1 := hbr.size
      go_wp2_with fail
      refine (Tryz.Builder_String_any w.heap.size w.heap.size (Lib.decDigits y ++ allD r) wr HBD.out hs1).mono ?_
      rintro e w2 ⟨rfl, hb2⟩
      have HF := Lib.hid (show decS x = Lib.decDigits y ++ allD r by rw [← HX.out, HLR.out, decL_top r y hy0])
      go_wp2
      go_ret
      exact ⟨ret_val (by rw [HF.out]; simp), hbr.trans hb2⟩
end Go.Proofs.YtmpelpmhbadjoaaGreatDoor
