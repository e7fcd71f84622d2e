/- The walk of ofDigits: a text of digits becomes a natural. -/
import Derived.Test.YtmpelpmhbadjoaaGreatDoorTxt3
namespace Go.Proofs.YtmpelpmhbadjoaaGreatDoor
open Go.RowKit Limb Dig

theorem pow9 (k : Nat) : 1000000000 ^ k = 10 ^ (9 * k) := by rw [Nat.pow_mul]
theorem dig_le {l : List UInt8} (h : ∀ b ∈ l, isDig b) : digVal l < 10 ^ l.length := by
  induction l with
  | nil => simp [digVal]
  | cons b l ih =>
    have h1 := ih fun c hc => h c (List.mem_cons.2 (Or.inr hc))
    have h2 := h b (List.mem_cons.2 (Or.inl rfl))
    unfold isDig at h2
    rw [digVal_cons, List.length_cons, Nat.pow_succ]
    have : (b.toNat - 48) * 10 ^ l.length ≤ 9 * 10 ^ l.length := Nat.mul_le_mul_right _ (by omega)
    omega
/-- the text left, the text done, the limbs -/
structure OfInv (orig t rest : List UInt8) (out : List Nat) : Prop where
  eq : orig = t ++ rest
  v : val out = digVal rest
  s : Small out
  n : rest.length = 9 * out.length ∨ (t = [] ∧ rest.length ≤ 9 * out.length ∧ 9 * out.length ≤ rest.length + 8)
theorem OfInv.next {orig t rest : List UInt8} {out : List Nat} (h : OfInv orig t rest out) (hd : ∀ b ∈ orig, isDig b) (ht : t ≠ []) {k : Nat} (hk : k = t.length - 9) :
    OfInv orig (t.take k) (t.drop k ++ rest) (out ++ [digVal (t.drop k)]) := by
  obtain ⟨h1, h2, h3, h4⟩ := h
  have hn : rest.length = 9 * out.length := by
    rcases h4 with h | h
    · exact h
    · exact absurd h.1 ht
  have hl : 0 < t.length := List.length_pos_iff.2 ht
  have hdl : (t.drop k).length = t.length - k := List.length_drop
  have hlt : digVal (t.drop k) < 1000000000 := by
    have := dig_le (l := t.drop k) fun b hb => hd b (by rw [h1]; exact List.mem_append.2 (.inl (List.mem_of_mem_drop hb)))
    have hp : 10 ^ (t.drop k).length ≤ 10 ^ 9 := Nat.pow_le_pow_right (by omega) (by omega)
    omega
  refine ⟨by rw [h1, ← List.append_assoc, List.take_append_drop], ?_, h3.snoc hlt, ?_⟩
  · rw [val_snoc, digVal_append, h2, pow9, ← hn, Nat.mul_comm]
    omega
  · simp only [List.length_append, List.length_singleton, hdl, hn]
    by_cases h9 : 9 ≤ t.length
    · exact .inl (by omega)
    · refine .inr ⟨by rw [show k = 0 by omega, List.take_zero], by omega, by omega⟩
set_option maxHeartbeats 2000000 in
set_option maxRecDepth 100000 in
theorem ofDigits_any (s : ByteArray) (w : World) (hs : s.size ≤ 100000) (hd : ∀ b ∈ s.data.toList, isDig b) :
    Calls Tryz.prog 57 #[.string s] w fun e w' => (∃ v, e = .returned v ∧ Rep w' (s.size / 9 + 1) v (digVal s.data.toList)) ∧ Below w.heap.size w w' := by
  obtain ⟨i0, hi, hz0, hz1, hz2⟩ := info_parts infoU
  have HD := Lib.hid hd
  clear hd
  go_enter Tryz.func57, Tryz.ntmps57
  go_wp2
  go_loopw [0, 3, 4, 5, 6] (fun ss v _ _ _ wr => ∃ (t : ByteArray) (rest : List UInt8) (out : List Nat), ss = .string t ∧ OfInv s.data.toList t.data.toList rest out ∧ t.size ≤ s.size ∧ out.length ≤ s.size / 9 + 1 ∧ wr.ownsRow w.heap.size 44 1 v out.length (limV out) ∧ Below w.heap.size w wr) (fun ss _ _ _ _ _ => match ss with | .string t => t.size | _ => 0)
  case atStart => exact ⟨s, [], [], rfl, ⟨by simp, rfl, Small.nil, .inl rfl⟩, Nat.le_refl _, by simp, World.ownsRow_nil _ _ _ _, Below.refl _ _⟩
  case round =>
    obtain ⟨t, rest, out, rfl, hinv, hts, hol, hown, hbr⟩ := hrel
    have HI := Lib.hid hinv
    clear hinv
    by_cases h0 : 0 < t.size
    · have hne : t.data.toList ≠ [] := fun e => by have := dsize e; rw [List.length_nil] at this; omega
      have HN := Lib.hid (fun k hk => HI.out.next HD.out hne (k := k) hk)
      have HNE := Lib.hid hne
      clear hne
      go_wp2_with fail
      obtain ⟨k, hk⟩ : ∃ k, k = t.size - 9 := ⟨_, rfl⟩
      have hkm : max 0 ((t.size : Int) - 9) = (k : Int) := by omega
      rw [hkm]
      have HK := Lib.hid hk
      have hk1 : k < t.size := by omega
      have hk2 : t.size ≤ k + 9 := by omega
      clear hkm hk
      have HO := Lib.hid hown
      have HL0 := Lib.hid (show digVal ((t.data.toList.drop k).take (k - k)) = 0 by simp [digVal])
      clear hown
      have htl : t.data.toList.length = t.size := rfl
      have HDT := Lib.hid (show ∀ b ∈ t.data.toList, isDig b from fun b hb => HD.out b (by rw [HI.out.eq]; exact List.mem_append.2 (.inl hb)))
      go_loop [5, 6] (fun lim i => ∃ m : Nat, k ≤ m ∧ m ≤ t.size ∧ i = .int .i64 (m : Int) ∧ lim = .int .u64 ((digVal ((t.data.toList.drop k).take (m - k)) : Nat) : Int)) (fun _ i => t.size - (intOf i).toNat)
      case atStart => exact ⟨k, Nat.le_refl _, by omega, rfl, by rw [HL0.out]; rfl⟩
      case round =>
        obtain ⟨m, hkm, hmt, rfl, rfl⟩ := hrel
        by_cases hlt : m < t.size
        · have hm : t[m] ∈ t.data.toList := by
            have : t[m] = t.data.toList[m]'(by rw [htl]; exact hlt) := rfl
            rw [this]
            exact List.getElem_mem _
          have hdg := HDT.out _ hm
          unfold isDig at hdg
          have hbd : digVal ((t.data.toList.drop k).take (m - k)) < 1000000000 := by
            have h1 := dig_le (l := (t.data.toList.drop k).take (m - k)) fun b hb => HDT.out b (List.mem_of_mem_drop (List.mem_of_mem_take hb))
            have h2 : 10 ^ ((t.data.toList.drop k).take (m - k)).length ≤ 10 ^ 9 := Nat.pow_le_pow_right (by omega) (by simp; omega)
            omega
          have HS := Lib.hid (show digVal ((t.data.toList.drop k).take (m + 1 - k)) = digVal ((t.data.toList.drop k).take (m - k)) * 10 + (t[m].toNat - 48) by
            rw [show m + 1 - k = (m - k) + 1 by omega, List.take_succ_eq_append_getElem (by simp; omega), digVal_snoc]
            congr 2
            simp only [List.getElem_drop, show k + (m - k) = m from by omega]
            rfl)
          obtain ⟨d, ed⟩ : ∃ d, digVal ((t.data.toList.drop k).take (m - k)) = d := ⟨_, rfl⟩
          rw [ed] at hbd HS ⊢
          clear ed hm
          have hd1 := hdg.1
          have hd2 := hdg.2
          have HG := Lib.hid hdg
          clear hdg
          go_wp2
          go_round
          case rel => exact ⟨m + 1, by omega, by omega, by go_num, by rw [HS.out]; exact congrArg (Value.int .u64) (by omega)⟩
          case measure => simp [intOf]; omega
        · have HF := Lib.hid (show digVal ((t.data.toList.drop k).take (m - k)) = digVal (t.data.toList.drop k) by rw [List.take_of_length_le (by simp; omega)])
          rw [HF.out]
          have hlen : out.length ≤ s.size / 9 := by
            have := HI.out.n
            have e1 := congrArg List.length HI.out.eq
            rw [List.length_append, htl, show s.data.toList.length = s.size from rfl] at e1
            rcases this with h | h
            · omega
            · exact absurd h.1 HNE.out
          have HN1 := Lib.hid (HN.out k HK.out)
          obtain ⟨d, ed⟩ : ∃ d, digVal (t.data.toList.drop k) = d := ⟨_, rfl⟩
          rw [ed] at HN1 ⊢
          clear ed HF HN
          have hown := HO.out
          go_wp2_with (at_builtin; refine wpList_append_own _ rfl _ _ 42 rfl w.heap.size 44 i0 (.int .u64 0) 1 8 Tryz.underlying42 hi hz0 hz1 hz2 rfl (by decide) _ _ _ rfl (hown.alloc _) ⟨wr.heap.size, 0, none⟩ 1 1 [.int .u64 (d : Int)] rfl rfl ?c1 ?c2 ?c3 ?c4 ?c5 ?_)
          case c2 => rfl
          case c3 => unfold maxLen; omega
          case c4 => omega
          case c5 => have := hbr.size; simp; omega
          intro v2 w2 hown2 hg2 _
          have hrow : ∀ g, u3.ownBlock = some g → w.heap.size ≤ g := fun g hg => (hown.lt g hg).1
          have hb2 : Below w.heap.size w w2 := (hbr.alloc hbr.size _).grown hg2 (by have := hbr.size; simp; omega) hrow
          have HO2 := Lib.hid (show w2.ownsRow w.heap.size 44 1 v2 (out ++ [d]).length (limV (out ++ [d])) by rw [limV_append, List.length_append]; exact hown2)
          clear hown2 hg2 hrow hown
          have HX := Lib.hid (show (t.extract 0 k).data.toList = t.data.toList.take k by simp [ByteArray.data_extract, List.extract])
          have hkt : k ≤ t.size := by omega
          go_wp2
          go_roundw
          case rel => exact ⟨_, _, _, rfl, by rw [HX.out]; exact HN1.out, by rw [dsize HX.out]; simp; omega, by simp; omega, HO2.out, hb2⟩
          case measure =>
            show (t.extract 0 k).size < t.size
            rw [dsize HX.out]
            simp
            omega
    · have ht0 : t.data.toList = [] := List.eq_nil_of_length_eq_zero (by have : t.data.toList.length = t.size := rfl; omega)
      have HV := Lib.hid (show val out = digVal s.data.toList by rw [HI.out.v, HI.out.eq, ht0]; rfl)
      have HS := Lib.hid HI.out.s
      obtain ⟨A, cp, rfl, hr, hc1, hc2⟩ := own_form hown
      have HC2 := Lib.hid hc2
      have HR0 := Lib.hid hr
      clear hc2 hown hr
      go_wp2_with fail
      refine (trim_any _ _ _ _ _ hc1 HC2.out HR0.out).mono ?_
      rintro e w2 ⟨⟨m, hm, rfl, ht, hv⟩, rfl⟩
      have HR := Lib.hid (show Rep wr (s.size / 9 + 1) (.slice A m cp) (digVal s.data.toList) from rep_trim HR0.out hc1 HC2.out hm HS.out ht (hv.trans HV.out) (by omega))
      clear ht hv
      go_wp2
      go_ret
      exact ⟨⟨_, rfl, HR.out⟩, hbr⟩
end Go.Proofs.YtmpelpmhbadjoaaGreatDoor
