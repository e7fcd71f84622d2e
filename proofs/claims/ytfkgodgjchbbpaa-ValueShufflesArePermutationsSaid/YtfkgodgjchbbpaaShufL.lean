/- 'ValueShufflesArePermutations' is proved: Shuffle has each number once, and Stream is a beginning of longer ones, for any seed and number. No condition. -/
import Derived.Test.YtfkgodgjchbbpaaChanL
import Derived.Maps.Views
import Derived.Maps.Own
namespace Go.Proofs.Ytfkgodgjchbbpaa
open Go.ChangeShapes Go.WideShapes Go.ChangeAt Go.RowKit Go.Joins Go.Maps

theorem swapAt_perm (l : List Int) (i j : Nat) (hi : i < l.length) (hj : j < l.length) : (swapAt l i j).Perm l := by
  rw [List.perm_iff_count]
  intro a
  unfold swapAt
  have hg1 : l.getD j 0 = l[j] := by simp [List.getD, hj]
  have hg2 : l.getD i 0 = l[i] := by simp [List.getD, hi]
  rw [hg1, hg2, List.count_set (by simpa using hj), List.count_set hi]
  rw [List.getElem_set]
  have c1 : l[i] = a → 0 < l.count a := fun h => List.count_pos_iff.2 (h ▸ List.getElem_mem hi)
  have c2 : l[j] = a → 0 < l.count a := fun h => List.count_pos_iff.2 (h ▸ List.getElem_mem hj)
  by_cases e : i = j
  · subst e
    by_cases h1 : l[i] = a <;> simp [h1] <;> have := c1 <;> simp_all <;> omega
  · by_cases h1 : l[i] = a <;> by_cases h2 : l[j] = a <;> simp [h1, h2, e] <;> simp_all <;> omega
theorem shufL_perm (s : ByteArray) (n : Nat) (k : Nat) (hk : k ≤ n - 1) : (shufL s n k).Perm ((List.range n).map Int.ofNat) := by
  induction k with
  | zero => exact List.Perm.refl _
  | succ k ih =>
    refine (swapAt_perm _ _ _ ?_ ?_).trans (ih (by omega))
    · rw [shufL_len]; omega
    · rw [shufL_len]
      unfold jAt
      have h1 := Int.emod_nonneg (drawS s k) (show ((n - 1 - k : Nat) : Int) + 1 ≠ 0 by omega)
      have h2 := Int.emod_lt_of_pos (drawS s k) (show (0 : Int) < ((n - 1 - k : Nat) : Int) + 1 by omega)
      omega
theorem shufL_nodup (s : ByteArray) (n : Nat) : (shufL s n (n - 1)).Nodup := by
  rw [(shufL_perm s n (n - 1) (Nat.le_refl _)).nodup_iff]
  unfold List.Nodup
  rw [List.pairwise_map]
  refine List.Pairwise.imp ?_ List.nodup_range
  intro a b h e
  exact h (Int.ofNat.inj e)
theorem shufL_range (s : ByteArray) (n : Nat) (x : Int) (h : x ∈ shufL s n (n - 1)) : 0 ≤ x ∧ x < n := by
  rw [(shufL_perm s n (n - 1) (Nat.le_refl _)).mem_iff] at h
  simp at h
  obtain ⟨a, ha, rfl⟩ := h
  omega
theorem nodup_take {l : List Int} (h : l.Nodup) {k : Nat} (hk : k < l.length) : l[k] ∉ l.take k := by
  intro hm
  obtain ⟨i, hi, he⟩ := List.getElem_of_mem hm
  rw [List.getElem_take] at he
  have hik : i < k := by simp at hi; omega
  have := (List.getElem_inj (xs := l) h).1 he
  omega
def seenD (l : List Int) : DataW Unit := l.foldl (fun D x => D.put (.int .i64 x) (.lit (.bool true))) (.map [])
theorem seenD_snoc (l : List Int) (x : Int) : seenD (l ++ [x]) = (seenD l).put (.int .i64 x) (.lit (.bool true)) := by unfold seenD; rw [List.foldl_append]; rfl
theorem seenD_no (l : List Int) (x : Int) (z : DataW Unit) (h : x ∉ l) : (seenD l).atKey (.int .i64 x) z = z := by
  have key : ∀ (l : List Int) (D : DataW Unit), x ∉ l → D.atKey (.int .i64 x) z = z → (l.foldl (fun D x => D.put (.int .i64 x) (.lit (.bool true))) D).atKey (.int .i64 x) z = z := by
    intro l
    induction l with
    | nil => intro D _ h; exact h
    | cons y r ih =>
      intro D hm hD
      simp only [List.mem_cons, not_or] at hm
      refine ih _ hm.2 ?_
      rw [atKey_put_other (by simp; exact fun e => hm.1 e)]
      exact hD
  exact key l _ h rfl
theorem stream_take (s : ByteArray) (n m : Nat) (h : m ≤ n) : (streamL s n).take m = streamL s m := by
  unfold streamL
  rw [← List.map_take, List.take_range, Nat.min_eq_left h]

theorem seen_fresh {w : World} {b k : Nat} {l : List Int} {x : Int} (h : w.ownsMap Try.prog 3 (plainElem Try.prog 4) b k (seenD l)) (hx : x ∉ l) (hw : (Lit.int .i64 x).wf = true) (hz : (zeroValue 4).run Try.prog w = .ok (.bool false) w) :
    (Instr.lookup 38 (.map (some b)) (.int .i64 x) false).run Try.prog w = .ok (.bool false) w := by
  obtain ⟨v, ps, hrun, hv⟩ := h.lookup (int_keyed Try.underlying3) Try.underlying38 hz (plainElem_bool Try.underlying4 false) (keyOf_int_mk Try.underlying3 hw)
  rw [seenD_no l x _ hx] at hv
  unfold plainElem at hv
  rw [Try.underlying4] at hv
  cases v <;> simp at hv
  rw [hrun, hv.1]

theorem reads_take {w : World} {B' : Nat} {A : Option Addr} {n m : Nat} {xs : List Value} (h : Reads w B' 1 A n xs) (hm : m ≤ n) : Reads w B' 1 A m (xs.take m) := by
  refine ⟨by have := h.1; simp; omega, fun h0 => ?_⟩
  obtain ⟨ad, e, hb, hc⟩ := h.2 (by omega)
  refine ⟨ad, e, hb, fun j u hj => hc j u ?_⟩
  rw [List.getElem?_take] at hj
  split at hj
  · exact hj
  · cases hj
theorem numV_take (κ : IntKind) (l : List Int) (m : Nat) : (numV κ l).take m = numV κ (l.take m) := by simp [numV, List.map_take]
theorem shuf_off (s : ByteArray) (n : Int) (w : World) (h : n < 0 ∨ 10000 < n) :
    Calls Try.prog 5 #[.string s, .int .i64 n] w fun e w' => e = .returned (.bool true) ∧ Below w.heap.size w w' := by
  have H := Lib.hid h
  by_cases h0 : n < 0
  · clear h
    go_enter Try.func5, Try.ntmps5
    go_wp2_with fail
    refine (Shuffle_off _ _ _ H.out).mono ?_
    rintro e w1 ⟨rfl, rfl⟩
    go_wp2_with fail
    go_ret
    exact ⟨rfl, Below.refl _ _⟩
  · have h1 : 10000 < n := by omega
    clear h
    go_enter Try.func5, Try.ntmps5
    go_wp2_with fail
    refine (Shuffle_off _ _ _ H.out).mono ?_
    rintro e w1 ⟨rfl, rfl⟩
    go_wp2_with fail
    go_ret
    exact ⟨rfl, Below.refl _ _⟩
set_option maxHeartbeats 1000000 in
theorem shuf_in (s : ByteArray) (n : Nat) (w : World) (hs : s.size ≤ maxLen) (hn : n ≤ 10000) :
    Calls Try.prog 5 #[.string s, .int .i64 n] w fun e w' => e = .returned (.bool true) ∧ Below w.heap.size w w' := by
  have hm : n ≤ maxLen := by unfold maxLen; omega
  have hmm := @run_makeMap Try.prog
  have hlen := shufL_len s n (n - 1)
  go_enter Try.func5, Try.ntmps5
  go_wp2_with fail
  refine (Shuffle_in _ _ _ hs hn).mono ?_
  rintro e w1 ⟨v1, rfl, ho1, hb1⟩
  obtain ⟨A1, c1, rfl, hr1⟩ := own_reads ho1
  clear ho1
  go_wp2_with fail
  go_loopw [30, 9] (fun i _ wr => ∃ k : Nat, k ≤ n ∧ i = .int .i64 k ∧ wr.ownsMap Try.prog 3 (plainElem Try.prog 4) w1.heap.size k (seenD ((shufL s n (n - 1)).take k)) ∧ Below w1.heap.size w1 wr) (fun i _ _ => n - (intOf i).toNat)
  case atStart => exact ⟨0, Nat.zero_le _, rfl, World.ownsMap_made _ _ _ _, (Below.refl _ _).alloc (Nat.le_refl _) _⟩
  case round =>
    obtain ⟨k, hk, rfl, hown, hbr⟩ := hrel
    clear hmm
    by_cases hlt : k < n
    · have hkl : k < (shufL s n (n - 1)).length := by omega
      obtain ⟨a, u, rfl, _, hu, hc⟩ := (hr1.below hbr).at_ hlt
      obtain ⟨_, rfl⟩ := numV_get _ _ _ _ hu
      clear hu hr1
      have hx := shufL_range s n _ (List.getElem_mem hkl)
      have hfresh := nodup_take (shufL_nodup s n) hkl
      have HT := Lib.hid (show (shufL s n (n - 1)).take (k + 1) = (shufL s n (n - 1)).take k ++ [(shufL s n (n - 1))[k]] from List.take_succ_eq_append_getElem hkl)
      obtain ⟨x, hxe⟩ : ∃ x, (shufL s n (n - 1))[k] = x := ⟨_, rfl⟩
      rw [hxe] at hc hx hfresh HT
      obtain ⟨x0, x1⟩ := hx
      have hw : (Lit.int .i64 x).wf = true := by
        have e1 : IntKind.i64.min = -9223372036854775808 := rfl
        have e2 : IntKind.i64.max = 9223372036854775807 := rfl
        simp only [Lit.wf, Bool.and_eq_true, decide_eq_true_eq]
        omega
      have hz : (zeroValue 4).run Try.prog wr = .ok (.bool false) wr := by kernel_rfl
      have hrun := seen_fresh hown hfresh hw hz
      obtain ⟨w2, hrun2, hown2, hg2⟩ := hown.update (int_keyed Try.underlying3) Try.underlying38 (by unfold maxLen; omega) (keyOf_int_mk Try.underlying3 hw) (plainElem_bool (H := Unit) Try.underlying4 true)
      have HO := Lib.hid (show w2.ownsMap Try.prog 3 (plainElem Try.prog 4) w1.heap.size (k + 1) (seenD ((shufL s n (n - 1)).take (k + 1))) by rw [HT.out, seenD_snoc]; exact hown2)
      have hb2 : Below w1.heap.size w1 w2 := hbr.grown hg2 hbr.size (fun g hg => by injection hg with hg; omega)
      clear hown hown2 hg2 hfresh hz hw hxe hlen
      go_wp2_with fail
      go_roundw
      case rel => exact ⟨k + 1, by omega, by go_num, HO.out, hb2⟩
      case measure => simp [intOf]; omega
    obtain rfl : k = n := by omega
    clear hown
    have hb := hb1.trans (hbr.mono hb1.size)
    clear hbr hb1 hr1
    go_wp2_with fail
    refine (Stream_in _ _ _ hs hn).mono ?_
    rintro e w3 ⟨v3, rfl, ho3, hb3⟩
    replace hb := hb.trans (hb3.mono hb.size)
    obtain ⟨A3, c3, rfl, hr3⟩ := own_reads ho3
    have hc3 : k ≤ c3 := by
      rcases ho3.2 with ⟨e1, e2⟩ | ⟨g, cap, cur, e1, e2, e3, e4, e5⟩
      · omega
      · injection e1 with e1 e6 e7; omega
    have hc4 : c3 ≤ maxLen := by
      rcases ho3.2 with ⟨e1, e2⟩ | ⟨g, cap, cur, e1, e2, e3, e4, e5, e6⟩
      · injection e1 with e1 e6 e7; omega
      · injection e1 with e1 e7 e8; omega
    clear ho3
    have hs3 := hb3.size
    clear hb3
    obtain ⟨m, hq, hmk⟩ : ∃ m : Nat, (k : Int) / 2 = m ∧ m ≤ k := ⟨k / 2, by omega, by omega⟩
    go_wp2_with fail
    refine (Stream_in _ m _ hs (by omega)).mono ?_
    rintro e w4 ⟨v4, rfl, ho4, hb4⟩
    obtain ⟨A4, c4, rfl, hr4⟩ := own_reads ho4
    clear ho4
    replace hr3 := hr3.below hb4
    replace hb := hb.trans (hb4.mono hb.size)
    have hs4 := hb4.size
    clear hb4
    unfold maxLen at hc4
    have hrt : Reads w4 w3.heap.size 1 A3 m (numV .u64 (streamL s m)) := by
      have := reads_take hr3 hmk
      rwa [numV_take, stream_take s k m hmk] at this
    go_wp2_with fail
    refine (equalU64_any _ _ _ _ _ _ w3.heap.size w4.heap.size (streamL s m) (streamL s m) _ (Nat.le_trans hmk hm) (Nat.le_trans hmk hm) hrt hr4 (by omega) (by omega)).mono ?_
    rintro e w5 ⟨rfl, hb5⟩
    have t1 : decide (streamL s m = streamL s m) = true := by simp
    rw [t1]
    clear t1 hq
    go_wp2_with fail
    go_ret
    exact ⟨rfl, hb.trans (hb5.mono hb.size)⟩
theorem shuf_any (s : ByteArray) (n : Int) (w : World) (hs : s.size ≤ maxLen) :
    Calls Try.prog 5 #[.string s, .int .i64 n] w fun e w' => e = .returned (.bool true) ∧ Below w.heap.size w w' := by
  by_cases h : n < 0 ∨ 10000 < n
  · exact shuf_off s n w h
  · obtain ⟨m, rfl⟩ : ∃ m : Nat, n = m := ⟨n.toNat, by omega⟩
    exact shuf_in s m w hs (by omega)

set_option maxRecDepth 100000 in
theorem shuf_lifted (os : Os) (started : os.Started) (H : Type) (enc : TypeId × Value → H) :
    ReturnsInHanded {} Try.checked os 5 .any (Rows.valueShufflesArePermutationsSpec.pre6 enc Try.prog Try.f5 Rows.valueShufflesArePermutationsRow.domain false) (Rows.valueShufflesArePermutationsSpec.post enc Try.prog Try.f5 false true false false) := by
  refine returnsInHanded_of_change (C := Try.checked) own started (by kernel_rfl) Try.func5
    (ChangeSpec.witness6 (enc := enc) (C := Try.checked) false ⟨#[], #[.string ⟨#[]⟩, .int .i64 0], []⟩ 8 (by kernel_rfl) (by kernel_rfl) (by kernel_rfl) (by kernel_rfl)) ?_
  intro W base args ds gs before hval0 hW hcnd _
  have hval : ∀ (j : Nat) t v, Try.f5.params[j]? = some t → args[j]? = some v → Value.okWide Try.prog W .any base t v := hval0
  have hW' : DataW.Whole enc Try.prog Try.f5.params.toList [] false W args.toList ds gs before := hW
  obtain ⟨p, q, hA0, hV, rfl, -, -⟩ := hW
  have hA : DataW.TrodAll enc Try.prog W 0 (fun _ => true) true Try.f5.params.toList args.toList ds p := hA0
  rw [Try.params5] at hA hval
  obtain ⟨v0, vs0, d0, ds0, p0, q0, hargs, rfl, rfl, h0, r0⟩ := trodAll_cons hA
  obtain ⟨v1, vs1, d1, ds1, p1, q1, rfl, rfl, rfl, h1, r1⟩ := trodAll_cons r0
  obtain ⟨rfl, rfl, rfl⟩ := trodAll_nil r1
  obtain rfl : args = #[v0, v1] := by cases args; simp_all
  obtain ⟨rfl, rfl⟩ := trodVars_none hV
  obtain ⟨s0, rfl, rfl, rfl, hs0⟩ := Go.ChangeMaps.open_string Try.underlying9 (hval 0 9 v0 rfl rfl) h0
  obtain ⟨n1, rfl, rfl, rfl, w1⟩ := open_int Try.underlying3 (hval 1 3 v1 rfl rfl) h1
  clear hA0 hval0 hval
  refine (shuf_any s0 n1 W hs0).mono fun e W' ⟨he, hb⟩ => ?_
  subst he
  exact ⟨_, rfl, law_post (by rw [Try.params5]; decide +kernel) rfl rfl rfl rfl rfl hW' hb⟩

theorem shuf_holds : Rows.ValueShufflesArePermutationsSaid :=
  OpenClaim.holds_of_wide 5 Try.f5 rfl rfl rfl rfl rfl rfl rfl ⟨rfl, rfl, rfl, rfl, rfl⟩ rfl rfl rfl rfl rfl (by kernel_rfl) Try.func5 (by kernel_rfl)
    (of_decide_eq_true (by kernel_rfl)) (by unfold Func.isWrapper; first | (rw [if_pos (by decide +kernel)]; kernel_rfl) | (rw [if_neg (by decide +kernel)]; exact ⟨rfl, rfl⟩))
    (fun os started H enc _ => shuf_lifted os started H enc)
#print axioms shuf_holds
end Go.Proofs.Ytfkgodgjchbbpaa
