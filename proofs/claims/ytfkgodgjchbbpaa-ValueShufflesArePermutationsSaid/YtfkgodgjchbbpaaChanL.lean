/- 'ValueChanceMatchesSpec' is proved: Stream and Shuffle of the program are those of the reference, for any seed and number. No condition. -/
import Derived.Test.YtfkgodgjchbbpaaShuf
import Derived.Test.YtfkgodgjchbbpaaEq
import Derived.Test.YtfkgodgjchbbpaaLaw
namespace Go.Proofs.Ytfkgodgjchbbpaa
open Go.ChangeShapes Go.WideShapes Go.ChangeAt Go.RowKit Go.Joins

theorem own_reads {w : World} {B : Nat} {e : TypeId} {v : Value} {n : Nat} {κ : IntKind} {l : List Int} (h : w.ownsRow B e 1 v n (numV κ l)) : ∃ A c, v = .slice A n c ∧ Reads w w.heap.size 1 A n (numV κ l) := by
  obtain ⟨h1, h2⟩ := h
  rcases h2 with ⟨rfl, rfl⟩ | ⟨g, cap, cur, rfl, e1, e2, e3⟩
  · have hl : l = [] := by simpa [numV] using h1
    subst hl
    exact ⟨none, 0, rfl, Reads.none_⟩
  · exact ⟨_, _, rfl, Reads.of_own (c := cap) ⟨h1, .inr ⟨g, cap, cur, rfl, e1, e2, e3⟩⟩⟩

theorem chance_off (s : ByteArray) (n : Int) (w : World) (h : n < 0 ∨ 10000 < n) :
    Calls Try.prog 4 #[.string s, .int .i64 n] w fun e w' => e = .returned (.bool true) ∧ Below w.heap.size w w' := by
  have H := Lib.hid h
  clear h
  go_enter Try.func4, Try.ntmps4
  go_wp2_with fail
  refine (Stream_off _ _ _ H.out).mono ?_
  rintro e w1 ⟨rfl, rfl⟩
  go_wp2_with fail
  refine (RStream_off _ _ _ H.out).mono ?_
  rintro e w1 ⟨rfl, rfl⟩
  go_wp2_with fail
  refine (Shuffle_off _ _ _ H.out).mono ?_
  rintro e w1 ⟨rfl, rfl⟩
  go_wp2_with fail
  refine (RShuffle_off _ _ _ H.out).mono ?_
  rintro e w1 ⟨rfl, rfl⟩
  go_wp2_with fail
  refine (equalU64_any none none 0 0 0 0 0 0 [] [] _ (Nat.zero_le _) (Nat.zero_le _) Reads.none_ Reads.none_ (Nat.zero_le _) (Nat.zero_le _)).mono ?_
  rintro e w1 ⟨rfl, hb1⟩
  go_wp2_with fail
  refine (equalInt_any none none 0 0 0 0 0 0 [] [] _ (Nat.zero_le _) (Nat.zero_le _) Reads.none_ Reads.none_ (Nat.zero_le _) (Nat.zero_le _)).mono ?_
  rintro e w2 ⟨rfl, hb2⟩
  go_wp2_with fail
  go_ret
  exact ⟨rfl, hb1.trans (hb2.mono hb1.size)⟩
theorem chance_in (s : ByteArray) (n : Nat) (w : World) (hs : s.size ≤ maxLen) (hn : n ≤ 10000) :
    Calls Try.prog 4 #[.string s, .int .i64 n] w fun e w' => e = .returned (.bool true) ∧ Below w.heap.size w w' := by
  have hm : n ≤ maxLen := by unfold maxLen; omega
  go_enter Try.func4, Try.ntmps4
  go_wp2_with fail
  refine (Stream_in _ _ _ hs hn).mono ?_
  rintro e w1 ⟨v1, rfl, ho1, hb1⟩
  obtain ⟨A1, c1, rfl, hr1⟩ := own_reads ho1
  clear ho1
  go_wp2_with fail
  refine (RStream_in _ _ _ hs hn).mono ?_
  rintro e w2 ⟨v2, rfl, ho2, hb2⟩
  obtain ⟨A2, c2, rfl, hr2⟩ := own_reads ho2
  clear ho2
  replace hr1 := hr1.below hb2
  replace hb1 := hb1.trans (hb2.mono hb1.size)
  go_wp2_with fail
  refine (Shuffle_in _ _ _ hs hn).mono ?_
  rintro e w3 ⟨v3, rfl, ho3, hb3⟩
  obtain ⟨A3, c3, rfl, hr3⟩ := own_reads ho3
  clear ho3
  have hs2 := hb2.size
  replace hr1 := hr1.keep fun p hp => hb3.cell (Nat.lt_of_lt_of_le hp hs2)
  replace hr2 := hr2.below hb3
  replace hb1 := hb1.trans (hb3.mono hb1.size)
  have hs3 := hb3.size
  clear hb2 hb3
  go_wp2_with fail
  refine (RShuffle_in _ _ _ hs hn).mono ?_
  rintro e w4 ⟨v4, rfl, ho4, hb4⟩
  obtain ⟨A4, c4, rfl, hr4⟩ := own_reads ho4
  clear ho4
  replace hr1 := hr1.keep fun p hp => hb4.cell (Nat.lt_of_lt_of_le hp (by omega))
  replace hr2 := hr2.keep fun p hp => hb4.cell (Nat.lt_of_lt_of_le hp (by omega))
  replace hr3 := hr3.below hb4
  replace hb1 := hb1.trans (hb4.mono hb1.size)
  have hs4 := hb4.size
  clear hb4
  go_wp2_with fail
  refine (equalU64_any _ _ _ _ _ _ w1.heap.size w2.heap.size (streamL s n) (streamL s n) _ hm hm hr1 hr2 (by omega) (by omega)).mono ?_
  rintro e w5 ⟨rfl, hb5⟩
  have t1 : decide (streamL s n = streamL s n) = true := by simp
  rw [t1]
  replace hr3 := hr3.keep fun p hp => hb5.cell (Nat.lt_of_lt_of_le hp (by omega))
  replace hr4 := hr4.below hb5
  replace hb1 := hb1.trans (hb5.mono hb1.size)
  have hs5 := hb5.size
  clear hb5 t1
  go_wp2_with fail
  refine (equalInt_any _ _ _ _ _ _ w3.heap.size w4.heap.size (shufL s n (n - 1)) (shufL s n (n - 1)) _ hm hm hr3 hr4 (by omega) (by omega)).mono ?_
  rintro e w6 ⟨rfl, hb6⟩
  have t1 : decide (shufL s n (n - 1) = shufL s n (n - 1)) = true := by simp
  rw [t1]
  clear t1
  go_wp2_with fail
  go_ret
  exact ⟨rfl, hb1.trans (hb6.mono hb1.size)⟩
theorem chance_any (s : ByteArray) (n : Int) (w : World) (hs : s.size ≤ maxLen) :
    Calls Try.prog 4 #[.string s, .int .i64 n] w fun e w' => e = .returned (.bool true) ∧ Below w.heap.size w w' := by
  by_cases h : n < 0 ∨ 10000 < n
  · exact chance_off s n w h
  · obtain ⟨m, rfl⟩ : ∃ m : Nat, n = m := ⟨n.toNat, by omega⟩
    exact chance_in s m w hs (by omega)

set_option maxRecDepth 100000 in
theorem chance_lifted (os : Os) (started : os.Started) (H : Type) (enc : TypeId × Value → H) :
    ReturnsInHanded {} Try.checked os 4 .any (Rows.valueChanceMatchesSpecSpec.pre6 enc Try.prog Try.f4 Rows.valueChanceMatchesSpecRow.domain false) (Rows.valueChanceMatchesSpecSpec.post enc Try.prog Try.f4 false true false false) := by
  refine returnsInHanded_of_change (C := Try.checked) own started (by kernel_rfl) Try.func4
    (ChangeSpec.witness6 (enc := enc) (C := Try.checked) false ⟨#[], #[.string ⟨#[]⟩, .int .i64 0], []⟩ 8 (by kernel_rfl) (by kernel_rfl) (by kernel_rfl) (by kernel_rfl)) ?_
  intro W base args ds gs before hval0 hW hcnd _
  have hval : ∀ (j : Nat) t v, Try.f4.params[j]? = some t → args[j]? = some v → Value.okWide Try.prog W .any base t v := hval0
  have hW' : DataW.Whole enc Try.prog Try.f4.params.toList [] false W args.toList ds gs before := hW
  obtain ⟨p, q, hA0, hV, rfl, -, -⟩ := hW
  have hA : DataW.TrodAll enc Try.prog W 0 (fun _ => true) true Try.f4.params.toList args.toList ds p := hA0
  rw [Try.params4] at hA hval
  obtain ⟨v0, vs0, d0, ds0, p0, q0, hargs, rfl, rfl, h0, r0⟩ := trodAll_cons hA
  obtain ⟨v1, vs1, d1, ds1, p1, q1, rfl, rfl, rfl, h1, r1⟩ := trodAll_cons r0
  obtain ⟨rfl, rfl, rfl⟩ := trodAll_nil r1
  obtain rfl : args = #[v0, v1] := by cases args; simp_all
  obtain ⟨rfl, rfl⟩ := trodVars_none hV
  obtain ⟨s0, rfl, rfl, rfl, hs0⟩ := Go.ChangeMaps.open_string Try.underlying9 (hval 0 9 v0 rfl rfl) h0
  obtain ⟨n1, rfl, rfl, rfl, w1⟩ := open_int Try.underlying3 (hval 1 3 v1 rfl rfl) h1
  clear hA0 hval0 hval
  refine (chance_any s0 n1 W hs0).mono fun e W' ⟨he, hb⟩ => ?_
  subst he
  exact ⟨_, rfl, law_post (by rw [Try.params4]; decide +kernel) rfl rfl rfl rfl rfl hW' hb⟩

theorem chance_holds : Rows.ValueChanceMatchesSpecSaid :=
  OpenClaim.holds_of_wide 4 Try.f4 rfl rfl rfl rfl rfl rfl rfl ⟨rfl, rfl, rfl, rfl, rfl⟩ rfl rfl rfl rfl rfl (by kernel_rfl) Try.func4 (by kernel_rfl)
    (of_decide_eq_true (by kernel_rfl)) (by unfold Func.isWrapper; first | (rw [if_pos (by decide +kernel)]; kernel_rfl) | (rw [if_neg (by decide +kernel)]; exact ⟨rfl, rfl⟩))
    (fun os started H enc _ => chance_lifted os started H enc)
#print axioms chance_holds
end Go.Proofs.Ytfkgodgjchbbpaa
