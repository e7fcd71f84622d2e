/- PLAIN. Printed texts are read back: calls and operations; the law. · PLAIN. Printed texts are read back: operations between parts; THE LAW. · PLAIN. THE LAW: what Print writes is read as the same expression. · The walk of the law: Parse makes of what Print writes the same expression. -/
import Derived.Test.YtobanldeicclmaaGreatDoorP7
import Derived.Test.YtobanldeicclmaaGreatDoorP3
import Derived.Test.YtobanldeicclmaaGreatDoorP23
import Derived.Test.YtobanldeicclmaaGreatDoorP25
namespace Go.Proofs.YtobanldeicclmaaGreatDoor
open Vtx Go.Lib Dig
section
variable {s : List UInt8}
theorem called_yes {i : Nat} {w : List UInt8} {l : List Tok} : calledB ⟨i, w, false⟩ (⟨i + w.length, [40], false⟩ :: l) = true := by simp [calledB]
theorem name_tok {i : Nat} {w : List UInt8} {l : List Tok} (h : nameB w = true) : nameAt (⟨i, w, false⟩ :: l) = some w := by simp [nameAt, h]
theorem take_yes {n i : Nat} {w : List UInt8} {l : List Tok} {k : List Tok → Res} : takeF n w (⟨i, w, false⟩ :: l) k = k l := by unfold takeF; rw [if_pos (by rw [isW_cons]; simp)]; rfl
theorem not_word {c : UInt8} {r : List UInt8} (h : wordB c = false) : ∀ d t, c :: r = d :: t → wordB d = false := fun d t e => by injection e with e; subst e; exact h
/-- what is known of a word that is called -/
structure Fn (w : List UInt8) : Prop where
  ex : ∃ c r, w = c :: r ∧ lowB c = true ∧ ∀ x ∈ r, wordB x = true
  const : constB w = false
  name : nameB w = true
  ne : w ≠ [40]
  nn : w ≠ notW
  n45 : w ≠ [45]
theorem fn_at {w rest : List UInt8} {i : Nat} (hw : Fn w) (h : s.drop i = w ++ 40 :: rest) (hp : Prev s i) : wordsOf s i = ⟨i, w, false⟩ :: ⟨i + w.length, [40], false⟩ :: wordsOf s (i + w.length + 1) ∧ s.drop (i + w.length + 1) = rest ∧ Prev s (i + w.length + 1) := by
  obtain ⟨c, r, e, hc, hr⟩ := hw.ex
  have h2 : s.drop (i + w.length) = 40 :: rest := drop_split h
  refine ⟨?_, drop_split (w := [40]) h2, prev_open h2 (by decide)⟩
  rw [name_at h e hc hr (not_word (by decide)) hp, open_at h2]
theorem fn_row : Fn rowW := ⟨⟨114, [111, 119], rfl, by decide, by decide⟩, by decide +kernel, by decide +kernel, by decide, by decide, by decide⟩
theorem fn_over {o : Int} (h : 1 ≤ o ∧ o ≤ 6) : Fn (overT' o) ∧ overOf (overT' o) = o := by
  obtain rfl | rfl | rfl | rfl | rfl | rfl : o = 1 ∨ o = 2 ∨ o = 3 ∨ o = 4 ∨ o = 5 ∨ o = 6 := by omega
  all_goals exact ⟨⟨⟨_, _, rfl, by decide, by decide⟩, by decide +kernel, by decide +kernel, by decide, by decide, by decide⟩, by decide +kernel⟩
theorem fn_op {o : Int} (h : (12 ≤ o ∧ o ≤ 14) ∨ (21 ≤ o ∧ o ≤ 39)) : Fn (funcT o) ∧ opOf (funcT o) = o ∧ overOf (funcT o) = 0 := by
  obtain rfl | rfl | rfl | rfl | rfl | rfl | rfl | rfl | rfl | rfl | rfl | rfl | rfl | rfl | rfl | rfl | rfl | rfl | rfl | rfl | rfl | rfl : o = 12 ∨ o = 13 ∨ o = 14 ∨ o = 21 ∨ o = 22 ∨ o = 23 ∨ o = 24 ∨ o = 25 ∨ o = 26 ∨ o = 27 ∨ o = 28 ∨ o = 29 ∨ o = 30 ∨ o = 31 ∨ o = 32 ∨ o = 33 ∨ o = 34 ∨ o = 35 ∨ o = 36 ∨ o = 37 ∨ o = 38 ∨ o = 39 := by omega
  all_goals exact ⟨⟨⟨_, _, rfl, by decide, by decide⟩, by decide +kernel, by decide +kernel, by decide, by decide, by decide⟩, by decide +kernel, by decide +kernel⟩
theorem hw_fn {w w2 : List UInt8} (hw : Fn w) : HW s (w ++ 40 :: w2) w := fun i rest h1 _ h3 => ⟨_, (fn_at (rest := w2 ++ rest) hw (by rw [h1]; simp) h3).1⟩
theorem nameB_is {w : List UInt8} (h : isNameF w = true) : nameB w = true := by
  obtain ⟨c, r, e, hc, -, hres⟩ := name_parts h
  exact nameB_of e hc hres
theorem name_at' {w rest : List UInt8} {i : Nat} (hn : isNameF w = true) (h : s.drop i = w ++ rest) (hs : ∀ d r, rest = d :: r → wordB d = false) (hp : Prev s i) : wordsOf s i = ⟨i, w, false⟩ :: wordsOf s (i + w.length) := by
  obtain ⟨c, r, e, hc, hr, -⟩ := name_parts hn
  exact name_at h e hc hr hs hp
/-- the number of a row -/
theorem cl_row {e : Ex} (hs : Shape e) (hk : e.k = 3) : ClW s ([114, 111, 119, 40] ++ e.nm.data.toList ++ [41]) e 8 := by
  have hn := hs.n (.inr (.inl hk))
  have he : e = nameE 3 0 e.nm.data.toList [] := ex_ext hk (hs.o (by omega) (by omega)).1 (by simp) (hs.v (by omega)) (hs.o (by omega) (by omega)).2
  obtain ⟨w, hw⟩ : ∃ w, e.nm.data.toList = w := ⟨_, rfl⟩
  rw [hw] at hn he ⊢
  have ew : [114, 111, 119, 40] ++ w ++ [41] = rowW ++ 40 :: (w ++ [41]) := rfl
  rw [ew]
  refine ClW.of8 ?_ (hw_fn fn_row) (by decide) (by decide) (by simp)
  intro i rest h1 h2 h3 _
  obtain ⟨e1, d1, p1⟩ := fn_at (rest := (w ++ [41]) ++ rest) fn_row (by rw [h1]; simp) h3
  have d1' : s.drop (i + rowW.length + 1) = w ++ 41 :: rest := by rw [d1]; simp
  have e2 := name_at' hn d1' (not_word (by decide)) p1
  have d2 : s.drop (i + rowW.length + 1 + w.length) = 41 :: rest := drop_split d1'
  rw [e1, Pz_eq]
  dsimp only [stepP]
  rw [if_neg (by decide), if_neg (by rw [fn_row.const]; decide), if_neg fn_row.ne, if_neg (by rw [fn_row.name]; decide), if_neg (by rw [called_yes]; decide), if_neg (by decide +kernel), if_neg (by decide +kernel), if_pos rfl]
  dsimp only [List.tail_cons]
  rw [e2, name_tok (nameB_is hn)]
  dsimp only [List.tail_cons]
  rw [shut_at d2, take_yes, ← he]
  congr 2
  simp only [List.length_append, List.length_cons, List.length_nil]
  omega
/-- aggregates -/
theorem cl_over {e a : Ex} (hs : Shape e) (hk : e.k = 5) (ha : e.ar = [a]) (hc : ClW s a.text a (rowN a)) : ClW s (overT' e.op ++ [40] ++ e.nm.data.toList ++ [58, 32] ++ a.text ++ [41]) e 8 := by
  have hn := hs.n (.inr (.inr hk))
  have he : e = nameE 5 e.op e.nm.data.toList [a] := ex_ext hk rfl (by simp) (hs.v (by omega)) ha
  obtain ⟨hf, ho⟩ := fn_over (hs.op5 hk)
  have hop := hs.op5 hk
  obtain ⟨o, hoo⟩ : ∃ o, e.op = o := ⟨_, rfl⟩
  obtain ⟨w, hw⟩ : ∃ w, e.nm.data.toList = w := ⟨_, rfl⟩
  rw [hoo] at he hf ho hop ⊢
  rw [hw] at hn he ⊢
  obtain ⟨f, hff⟩ : ∃ f, overT' o = f := ⟨_, rfl⟩
  rw [hff] at hf ho ⊢
  have ew : f ++ [40] ++ w ++ [58, 32] ++ a.text ++ [41] = f ++ 40 :: (w ++ 58 :: 32 :: (a.text ++ [41])) := by simp
  rw [ew]
  refine ClW.of8 ?_ (hw_fn hf) hf.n45 hf.nn (by simp)
  intro i rest h1 h2 h3 _
  obtain ⟨e1, d1, p1⟩ := fn_at (rest := w ++ 58 :: 32 :: (a.text ++ 41 :: rest)) hf (by rw [h1]; simp) h3
  have e2 := name_at' hn d1 (not_word (by decide)) p1
  have d2 : s.drop (i + f.length + 1 + w.length) = 58 :: 32 :: (a.text ++ 41 :: rest) := drop_split d1
  have d3 : s.drop (i + f.length + 1 + w.length + 1) = 32 :: (a.text ++ 41 :: rest) := drop_split (w := [58]) d2
  have d4 : s.drop (i + f.length + 1 + w.length + 1 + 1) = a.text ++ 41 :: rest := drop_split (w := [32]) d3
  have d5 : s.drop (i + f.length + 1 + w.length + 1 + 1 + a.text.length) = 41 :: rest := drop_split d4
  have hor := hc.or _ _ d4 (stop_cons (.inr (.inl rfl))) (prev_blank d3) (by rw [shut_at d5]; exact fo_word (.inl rfl))
  rw [e1, Pz_eq]
  dsimp only [stepP]
  rw [if_neg (by decide), if_neg (by rw [hf.const]; decide), if_neg hf.ne, if_neg (by rw [hf.name]; decide), if_neg (by rw [called_yes]; decide), if_pos (by rw [ho]; omega)]
  dsimp only [List.tail_cons]
  rw [e2, name_tok (nameB_is hn)]
  dsimp only [List.tail_cons]
  rw [colon_at d2, take_yes, blank_at d3, hor]
  dsimp only [Res.bind]
  rw [shut_at d5, take_yes, ho, ← he]
  congr 2
  simp only [List.length_append, List.length_cons, List.length_nil]
  omega
theorem tail_cons {sep a : List UInt8} {r : List (List UInt8)} : joinTail sep (a :: r) = sep ++ a ++ joinTail sep r := by unfold joinTail; simp
theorem ins1 (ar : List Ex) : insL 1 ar = ar.map Ex.text := by
  rw [insL_map]
  refine List.map_congr_left fun a _ => ?_
  have := row_bd a
  unfold parT
  rw [decide_eq_false (by omega)]; rfl
/-- the arguments of a call -/
theorem argsL_run (op : Int) : ∀ (ar acc : List Ex) (i : Nat) (rest : List UInt8), (∀ a ∈ ar, ClW s a.text a (rowN a)) → acc.length + ar.length ≤ (arOf op).2 → (arOf op).1 ≤ acc.length + ar.length →
    s.drop i = joinTail [44, 32] (ar.map Ex.text) ++ 41 :: rest → Pz s.length (.argsL op) acc (wordsOf s i) = .ok (acc ++ ar) (wordsOf s (i + (joinTail [44, 32] (ar.map Ex.text)).length))
  | [], acc, i, rest, _, h1, h2, hd => by
    have hd' : s.drop i = 41 :: rest := hd
    rw [Pz_eq]
    dsimp only [stepP]
    rw [if_neg (by
      rw [shut_at hd', isW_cons]
      rintro (h | h)
      · simp at h2; omega
      · exact absurd h.1 (by decide))]
    simp [joinTail]
  | a :: ar, acc, i, rest, hc, h1, h2, hd => by
    rw [List.map_cons, tail_cons] at hd ⊢
    have hd' : s.drop i = 44 :: 32 :: (a.text ++ (joinTail [44, 32] (ar.map Ex.text) ++ 41 :: rest)) := by rw [hd]; simp
    have d1 : s.drop (i + 1) = 32 :: (a.text ++ (joinTail [44, 32] (ar.map Ex.text) ++ 41 :: rest)) := drop_split (w := [44]) hd'
    have d2 : s.drop (i + 1 + 1) = a.text ++ (joinTail [44, 32] (ar.map Ex.text) ++ 41 :: rest) := drop_split (w := [32]) d1
    have d3 : s.drop (i + 1 + 1 + a.text.length) = joinTail [44, 32] (ar.map Ex.text) ++ 41 :: rest := drop_split d2
    have hst : Stop (joinTail [44, 32] (ar.map Ex.text) ++ 41 :: rest) := by
      cases ar with
      | nil => exact stop_cons (.inr (.inl rfl))
      | cons b r => rw [List.map_cons, tail_cons]; exact stop_cons (.inr (.inr rfl))
    have hfo : FO (wordsOf s (i + 1 + 1 + a.text.length)) := by
      cases ar with
      | nil => rw [shut_at (rest := rest) (by rw [d3]; rfl)]; exact fo_word (.inl rfl)
      | cons b r =>
        rw [comma_at (rest := 32 :: (b.text ++ joinTail [44, 32] (r.map Ex.text)) ++ 41 :: rest) (by rw [d3, List.map_cons, tail_cons]; simp)]
        exact fo_word (.inr rfl)
    have hor := (hc a (List.mem_cons_self ..)).or _ _ d2 hst (prev_blank d1) hfo
    have ih := argsL_run op ar (acc ++ [a]) _ rest (fun b hb => hc b (List.mem_cons_of_mem _ hb)) (by simp at h1 ⊢; omega) (by simp at h2 ⊢; omega) d3
    rw [Pz_eq]
    dsimp only [stepP]
    rw [if_pos (.inr ⟨by rw [comma_at hd', isW_cons]; rfl, by simp at h1; omega⟩), comma_at hd', take_yes, blank_at d1, hor]
    dsimp only [Res.bind]
    have ep : i + 1 + 1 + a.text.length + (joinTail [44, 32] (ar.map Ex.text)).length = i + ([44, 32] ++ a.text ++ joinTail [44, 32] (ar.map Ex.text)).length := by
      simp only [List.length_append, List.length_cons, List.length_nil]
      omega
    rw [ih, ep, List.append_assoc]
    rfl
/-- calls -/
theorem cl_fun {e : Ex} (hs : Shape e) (hk : e.k = 4) (ho : (12 ≤ e.op ∧ e.op ≤ 14) ∨ (21 ≤ e.op ∧ e.op ≤ 39)) (hc : ∀ a ∈ e.ar, ClW s a.text a (rowN a)) : ClW s (funcT e.op ++ [40] ++ join (insL 1 e.ar) [44, 32] ++ [41]) e 8 := by
  have he : e = mkOp e.op e.ar := ex_ext hk rfl (hs.nm (by omega) (by omega) (by omega)) (hs.v (by omega)) rfl
  obtain ⟨hf, hop, hov⟩ := fn_op ho
  have h4 := hs.a4 hk
  have h1 : 1 ≤ (arOf e.op).1 := by
    unfold arOf
    repeat' split
    all_goals first | decide | omega
  rw [ins1]
  cases ha : e.ar with
  | nil => rw [ha] at h4; simp at h4; omega
  | cons a r =>
    rw [ha] at hc h4 he
    rw [List.map_cons, join_cons]
    generalize e.op = o at he hf hop hov h4 ho ⊢
    obtain ⟨f, hff⟩ : ∃ f, funcT o = f := ⟨_, rfl⟩
    rw [hff] at hf hop hov ⊢
    have ew : f ++ [40] ++ (a.text ++ joinTail [44, 32] (r.map Ex.text)) ++ [41] = f ++ 40 :: (a.text ++ (joinTail [44, 32] (r.map Ex.text) ++ [41])) := by simp
    rw [ew]
    refine ClW.of8 ?_ (hw_fn hf) hf.n45 hf.nn (by simp)
    intro i rest h1' h2 h3 _
    obtain ⟨e1, d1, p1⟩ := fn_at (rest := a.text ++ (joinTail [44, 32] (r.map Ex.text) ++ 41 :: rest)) hf (by rw [h1']; simp) h3
    have d2 : s.drop (i + f.length + 1 + a.text.length) = joinTail [44, 32] (r.map Ex.text) ++ 41 :: rest := drop_split d1
    have hst : Stop (joinTail [44, 32] (r.map Ex.text) ++ 41 :: rest) := by
      cases r with
      | nil => exact stop_cons (.inr (.inl rfl))
      | cons b r => rw [List.map_cons, tail_cons]; exact stop_cons (.inr (.inr rfl))
    have hfo : FO (wordsOf s (i + f.length + 1 + a.text.length)) := by
      cases r with
      | nil => rw [shut_at (rest := rest) (by rw [d2]; rfl)]; exact fo_word (.inl rfl)
      | cons b r =>
        rw [comma_at (rest := 32 :: (b.text ++ joinTail [44, 32] (r.map Ex.text)) ++ 41 :: rest) (by rw [d2, List.map_cons, tail_cons]; simp)]
        exact fo_word (.inr rfl)
    have hor := (hc a (List.mem_cons_self ..)).or _ _ d1 hst p1 hfo
    have hl := argsL_run o r [a] _ rest (fun b hb => hc b (List.mem_cons_of_mem _ hb)) (by simp at h4 ⊢; omega) (by simp at h4 ⊢; omega) d2
    have d3 : s.drop (i + f.length + 1 + a.text.length + (joinTail [44, 32] (r.map Ex.text)).length) = 41 :: rest := drop_split d2
    have hargs : Pz s.length (.args o) [] (wordsOf s (i + f.length + 1)) = .ok (a :: r) (wordsOf s (i + f.length + 1 + a.text.length + (joinTail [44, 32] (r.map Ex.text)).length)) := by
      rw [Pz_eq]
      dsimp only [stepP]
      rw [hor]
      dsimp only [Res.bind]
      rw [hl]
      rfl
    rw [e1, Pz_eq]
    dsimp only [stepP]
    rw [if_neg (by decide), if_neg (by rw [hf.const]; decide), if_neg hf.ne, if_neg (by rw [hf.name]; decide), if_neg (by rw [called_yes]; decide), if_neg (by rw [hov]; decide), if_pos (by rw [hop]; have := ho; omega)]
    dsimp only [List.tail_cons]
    rw [hop, hargs]
    dsimp only [Res.bind]
    rw [shut_at d3, take_yes, ← he]
    congr 2
    simp only [List.length_append, List.length_cons, List.length_nil]
    omega
end
end Go.Proofs.YtobanldeicclmaaGreatDoor
namespace Go.Proofs.YtobanldeicclmaaGreatDoor
open Vtx Go.Lib Dig
section
variable {s : List UInt8}
/-- the words of two parts with a sign between them -/
theorem bin_words {pa pb : List UInt8} {o : Int} (ho : (4 ≤ o ∧ o ≤ 11) ∨ o = 15 ∨ o = 16 ∨ o = 17 ∨ o = 18 ∨ o = 19) {i : Nat} {rest : List UInt8} (h : s.drop i = pa ++ [32] ++ infixT o ++ [32] ++ pb ++ rest) :
    ∃ j k, s.drop i = pa ++ 32 :: (infixT o ++ 32 :: (pb ++ rest)) ∧ wordsOf s (i + pa.length) = ⟨j, infixT o, false⟩ :: wordsOf s k ∧ s.drop k = pb ++ rest ∧ Prev s k ∧ k + pb.length = i + (pa ++ [32] ++ infixT o ++ [32] ++ pb).length := by
  have h1 : s.drop i = pa ++ 32 :: (infixT o ++ 32 :: (pb ++ rest)) := by rw [h]; simp
  have d1 : s.drop (i + pa.length) = 32 :: (infixT o ++ 32 :: (pb ++ rest)) := drop_split h1
  have d2 : s.drop (i + pa.length + 1) = infixT o ++ 32 :: (pb ++ rest) := drop_split (w := [32]) d1
  have d3 : s.drop (i + pa.length + 1 + (infixT o).length) = 32 :: (pb ++ rest) := drop_split d2
  have d4 : s.drop (i + pa.length + 1 + (infixT o).length + 1) = pb ++ rest := drop_split (w := [32]) d3
  obtain ⟨hl, c, w, e, hc⟩ := infix_word ho (pb ++ rest)
  refine ⟨i + pa.length + 1, i + pa.length + 1 + (infixT o).length + 1, h1, ?_, d4, prev_blank d3, by simp only [List.length_append, List.length_cons, List.length_nil]; omega⟩
  rw [blank_at d1, word_at d2 e hc hl (.inl (prev_blank d1)), blank_at d3]
/-- comparisons -/
theorem cl_cmp {e a b : Ex} {pa pb : List UInt8} {ra rb : Int} (he : e = mkOp e.op [a, b]) (ho : 4 ≤ e.op ∧ e.op ≤ 11) (hra : 5 ≤ ra) (hrb : 5 ≤ rb) (ha : ClW s pa a ra) (hb : ClW s pb b rb) : ClW s (pa ++ [32] ++ infixT e.op ++ [32] ++ pb) e 4 := by
  generalize e.op = o at he ho
  refine ClW.of3 (by decide) ?_ (by simp)
  intro i rest h1 h2 h3 hF
  obtain ⟨j, k, g1, g2, g3, g4, g5⟩ := bin_words (.inl ho) h1
  rw [← g5] at hF ⊢
  obtain ⟨f, hf, hn⟩ := ha.first hra
  obtain ⟨r, hr⟩ := hf i _ g1 (stop_cons (.inl rfl)) h3
  have hs1 := sum_of (ha.sum hra) i _ g1 (stop_cons (.inl rfl)) h3 (by rw [g2]; exact (fs_cmp ho).1)
  have hs2 := sum_of (hb.sum hrb) k rest g3 h2 g4 hF.1
  rw [Pz_eq]
  dsimp only [stepP]
  rw [if_neg (by rw [hr, isW_cons]; simpa using hn), hs1]
  dsimp only [Res.bind]
  rw [g2, (fs_cmp ho).2, if_neg (by omega)]
  dsimp only [List.tail_cons]
  rw [hs2, he]
  rfl
/-- sums -/
theorem cl_sum {e a b : Ex} {pa pb : List UInt8} {ra rb : Int} (he : e = mkOp e.op [a, b]) (ho : e.op = 15 ∨ e.op = 16) (hra : 5 ≤ ra) (hrb : 6 ≤ rb) (ha : ClW s pa a ra) (hb : ClW s pb b rb) : ClW s (pa ++ [32] ++ infixT e.op ++ [32] ++ pb) e 5 := by
  generalize e.op = o at he ho
  obtain ⟨f, hf, hn⟩ := ha.first hra
  refine ClW.of5 ?_ (f := f) ?_ hn (by simp)
  · intro i rest h1 h2 h3 hF
    obtain ⟨j, k, g1, g2, g3, g4, g5⟩ := bin_words (by omega) h1
    rw [← g5] at hF ⊢
    have hs1 := ha.sum hra i _ g1 (stop_cons (.inl rfl)) h3 (by rw [g2]; exact (fp_sum ho).1)
    have hs2 := product_of (hb.product hrb) k rest g3 h2 g4 hF
    rw [hs1, Pz_eq]
    dsimp only [stepP]
    rw [g2, (fp_sum ho).2, if_neg (by omega)]
    dsimp only [List.tail_cons]
    rw [hs2, he]
    rfl
  · intro i rest h1 h2 h3
    obtain ⟨j, k, g1, g2, g3, g4, g5⟩ := bin_words (by omega) h1
    exact hf i _ g1 (stop_cons (.inl rfl)) h3
/-- products -/
theorem cl_product {e a b : Ex} {pa pb : List UInt8} {ra rb : Int} (he : e = mkOp e.op [a, b]) (ho : e.op = 17 ∨ e.op = 18 ∨ e.op = 19) (hra : 6 ≤ ra) (hrb : 7 ≤ rb) (ha : ClW s pa a ra) (hb : ClW s pb b rb) : ClW s (pa ++ [32] ++ infixT e.op ++ [32] ++ pb) e 6 := by
  generalize e.op = o at he ho
  obtain ⟨f, hf, hn⟩ := ha.first (by omega)
  refine ClW.of6 ?_ (f := f) ?_ hn (by simp)
  · intro i rest h1 h2 h3
    obtain ⟨j, k, g1, g2, g3, g4, g5⟩ := bin_words (by omega) h1
    rw [← g5]
    have hs1 := ha.product hra i _ g1 (stop_cons (.inl rfl)) h3
    have hs2 := hb.minus hrb k rest g3 h2 g4 trivial
    rw [hs1, Pz_eq]
    dsimp only [stepP]
    rw [g2, f_product ho, if_neg (by omega)]
    dsimp only [List.tail_cons]
    rw [hs2, he]
    rfl
  · intro i rest h1 h2 h3
    obtain ⟨j, k, g1, g2, g3, g4, g5⟩ := bin_words (by omega) h1
    exact hf i _ g1 (stop_cons (.inl rfl)) h3
theorem fn_not : ∃ c r, notW = c :: r ∧ lowB c = true ∧ ∀ x ∈ r, wordB x = true := ⟨110, [111, 116], rfl, by decide, by decide⟩
/-- not -/
theorem cl_not {e a : Ex} {pa : List UInt8} {ra : Int} (he : e = mkOp 1 [a]) (hra : 3 ≤ ra) (ha : ClW s pa a ra) : ClW s ([110, 111, 116, 32] ++ pa) e 3 := by
  refine ClW.of3 (by decide) ?_ (by simp)
  intro i rest h1 h2 h3 hF
  have d0 : s.drop i = notW ++ 32 :: (pa ++ rest) := by rw [h1]; rfl
  obtain ⟨c, r, e1, hc, hr⟩ := fn_not
  have d1 : s.drop (i + notW.length) = 32 :: (pa ++ rest) := drop_split d0
  have d2 : s.drop (i + notW.length + 1) = pa ++ rest := drop_split (w := [32]) d1
  have ep : i + ([110, 111, 116, 32] ++ pa).length = i + notW.length + 1 + pa.length := by
    simp only [List.length_append, show notW.length = 3 from rfl, List.length_cons, List.length_nil]
    omega
  rw [ep] at hF ⊢
  have hs := ha.not hra _ rest d2 h2 (prev_blank d1) hF
  rw [name_at d0 e1 hc hr (not_word (by decide)) h3, Pz_eq]
  dsimp only [stepP]
  rw [if_pos (by rw [isW_cons]; simp)]
  dsimp only [List.tail_cons]
  rw [blank_at d1, hs, he]
  rfl
theorem first_char {i : Nat} {c : UInt8} {rest : List UInt8} (h : s.drop i = c :: rest) (h32 : c ≠ 32) : ∃ w t r, wordsOf s i = ⟨i, c :: w, t⟩ :: r := by
  obtain ⟨hg, hlt⟩ := drop_get h
  have hs : spanP blankB (s.drop i) = 0 := by rw [h, spanP, not_blank h32]; rfl
  obtain ⟨m, hm⟩ : ∃ m, wordLen (c :: rest) = m + 1 := ⟨wordLen (c :: rest) - 1, by have := wordLen_pos c rest; omega⟩
  rw [words_eq]
  have e : ∃ t, tokAt s i = some ⟨i, c :: rest.take m, t⟩ := by
    unfold tokAt
    rw [hs, Nat.add_zero, if_pos hlt, h, hm, List.take_succ_cons]
    exact ⟨_, rfl⟩
  obtain ⟨t, e⟩ := e
  rw [e]
  exact ⟨_, _, _, rfl⟩
/-- the opposite of a part that begins with no digit -/
theorem cl_neg {e a : Ex} {pa : List UInt8} {ra : Int} (he : e = mkOp 20 [a]) (hra : 7 ≤ ra) (ha : ClW s pa a ra) (hd : ∃ c r, pa = c :: r ∧ c ≠ 32 ∧ digB c = false) : ClW s ([45] ++ pa) e 7 := by
  have hf : HW s ([45] ++ pa) [45] := fun i rest h1 _ _ => ⟨_, dash_at (rest := pa ++ rest) (by rw [h1]; rfl)⟩
  refine ClW.of7 ?_ hf (by decide) (by simp)
  intro i rest h1 h2 h3 _
  have d0 : s.drop i = 45 :: (pa ++ rest) := by rw [h1]; rfl
  have d1 : s.drop (i + 1) = pa ++ rest := drop_split (w := [45]) d0
  obtain ⟨c, r, e1, h32, hdig⟩ := hd
  obtain ⟨w, t, l, e2⟩ := first_char (c := c) (rest := r ++ rest) (by rw [d1, e1]; rfl) h32
  have hs := ha.minus hra _ rest d1 h2 (prev_open d0 (by decide)) trivial
  have hnn : numNext (⟨i, [45], false⟩ :: wordsOf s (i + 1)) = false := by
    rw [e2]
    simp [numNext, hdig]
  rw [dash_at d0, Pz_eq]
  dsimp only [stepP]
  rw [if_pos (by rw [isW_cons]; rfl), if_neg (by rw [hnn]; decide)]
  dsimp only [List.tail_cons]
  rw [hs, he]
  dsimp only [Res.bind]
  congr 2
  simp only [List.length_append, List.length_cons, List.length_nil]
  omega
/-- or, behind its first part -/
theorem orL_run : ∀ (l : List (Ex × List UInt8)) (acc : List Ex) (i : Nat) (rest : List UInt8), (∀ p ∈ l, ∃ r, 2 ≤ r ∧ ClW s p.2 p.1 r) → s.drop i = joinTail [32, 111, 114, 32] (l.map (·.2)) ++ rest → Stop rest →
    FO (wordsOf s (i + (joinTail [32, 111, 114, 32] (l.map (·.2))).length)) → Pz s.length .orL acc (wordsOf s i) = .ok (joinE 3 (acc ++ l.map (·.1))) (wordsOf s (i + (joinTail [32, 111, 114, 32] (l.map (·.2))).length))
  | [], acc, i, rest, _, hd, hs, hF => by
    simp only [List.map_nil, joinTail, List.flatten_nil, List.length_nil, Nat.add_zero, List.append_nil] at hF ⊢
    exact orL_end hF.2
  | p :: l, acc, i, rest, hc, hd, hs, hF => by
    obtain ⟨q, hq⟩ : ∃ q, joinTail [32, 111, 114, 32] (l.map (·.2)) = q := ⟨_, rfl⟩
    simp only [List.map_cons, tail_cons] at hd hF ⊢
    rw [hq] at hd hF ⊢
    have d0 : s.drop i = 32 :: (orW ++ 32 :: (p.2 ++ (q ++ rest))) := by rw [hd]; simp [orW]
    have d1 : s.drop (i + 1) = orW ++ 32 :: (p.2 ++ (q ++ rest)) := drop_split (w := [32]) d0
    have d2 : s.drop (i + 1 + orW.length) = 32 :: (p.2 ++ (q ++ rest)) := drop_split d1
    have d3 : s.drop (i + 1 + orW.length + 1) = p.2 ++ (q ++ rest) := drop_split (w := [32]) d2
    have d4 : s.drop (i + 1 + orW.length + 1 + p.2.length) = q ++ rest := drop_split d3
    have ep : i + ([32, 111, 114, 32] ++ p.2 ++ q).length = i + 1 + orW.length + 1 + p.2.length + q.length := by
      simp only [List.length_append, show orW.length = 2 from rfl, List.length_cons, List.length_nil]
      omega
    rw [ep] at hF ⊢
    obtain ⟨r, hr, hcl⟩ := hc p (List.mem_cons_self ..)
    have hfa : FA (wordsOf s (i + 1 + orW.length + 1 + p.2.length)) ∧ Stop (q ++ rest) := by
      cases l with
      | nil =>
        have : q = [] := by rw [← hq]; rfl
        subst this
        exact ⟨hF.1, hs⟩
      | cons p2 l2 =>
        rw [List.map_cons, tail_cons] at hq
        have d5 : s.drop (i + 1 + orW.length + 1 + p.2.length) = 32 :: (orW ++ 32 :: (p2.2 ++ joinTail [32, 111, 114, 32] (l2.map (·.2)) ++ rest)) := by rw [d4, ← hq]; simp [orW]
        have d6 : s.drop (i + 1 + orW.length + 1 + p.2.length + 1) = orW ++ 32 :: (p2.2 ++ joinTail [32, 111, 114, 32] (l2.map (·.2)) ++ rest) := drop_split (w := [32]) d5
        refine ⟨?_, by rw [← hq]; exact stop_cons (.inl rfl)⟩
        rw [blank_at d5, name_at d6 (c := 111) (r := [114]) rfl (by decide) (by decide) (not_word (by decide)) (prev_blank d5)]
        exact fa_or
    have hs1 := hcl.and hr _ _ d3 hfa.2 (prev_blank d2) hfa.1
    have ih := orL_run l (acc ++ [p.1]) _ rest (fun b hb => hc b (List.mem_cons_of_mem _ hb)) (by rw [hq]; exact d4) hs (by rw [hq]; exact hF)
    rw [hq] at ih
    rw [blank_at d0, name_at d1 (c := 111) (r := [114]) rfl (by decide) (by decide) (not_word (by decide)) (prev_blank d0), Pz_eq]
    dsimp only [stepP]
    rw [if_pos (by rw [isW_cons]; simp)]
    dsimp only [List.tail_cons]
    rw [blank_at d2, hs1]
    dsimp only [Res.bind]
    rw [ih, List.append_assoc]
    rfl
/-- and, behind its first part -/
theorem andL_run : ∀ (l : List (Ex × List UInt8)) (acc : List Ex) (i : Nat) (rest : List UInt8), (∀ p ∈ l, ∃ r, 3 ≤ r ∧ ClW s p.2 p.1 r) → s.drop i = joinTail [32, 97, 110, 100, 32] (l.map (·.2)) ++ rest → Stop rest →
    FA (wordsOf s (i + (joinTail [32, 97, 110, 100, 32] (l.map (·.2))).length)) → Pz s.length .andL acc (wordsOf s i) = .ok (joinE 2 (acc ++ l.map (·.1))) (wordsOf s (i + (joinTail [32, 97, 110, 100, 32] (l.map (·.2))).length))
  | [], acc, i, rest, _, hd, hs, hF => by
    simp only [List.map_nil, joinTail, List.flatten_nil, List.length_nil, Nat.add_zero, List.append_nil] at hF ⊢
    exact andL_end hF.2
  | p :: l, acc, i, rest, hc, hd, hs, hF => by
    obtain ⟨q, hq⟩ : ∃ q, joinTail [32, 97, 110, 100, 32] (l.map (·.2)) = q := ⟨_, rfl⟩
    simp only [List.map_cons, tail_cons] at hd hF ⊢
    rw [hq] at hd hF ⊢
    have d0 : s.drop i = 32 :: (andW ++ 32 :: (p.2 ++ (q ++ rest))) := by rw [hd]; simp [andW]
    have d1 : s.drop (i + 1) = andW ++ 32 :: (p.2 ++ (q ++ rest)) := drop_split (w := [32]) d0
    have d2 : s.drop (i + 1 + andW.length) = 32 :: (p.2 ++ (q ++ rest)) := drop_split d1
    have d3 : s.drop (i + 1 + andW.length + 1) = p.2 ++ (q ++ rest) := drop_split (w := [32]) d2
    have d4 : s.drop (i + 1 + andW.length + 1 + p.2.length) = q ++ rest := drop_split d3
    have ep : i + ([32, 97, 110, 100, 32] ++ p.2 ++ q).length = i + 1 + andW.length + 1 + p.2.length + q.length := by
      simp only [List.length_append, show andW.length = 3 from rfl, List.length_cons, List.length_nil]
      omega
    rw [ep] at hF ⊢
    obtain ⟨r, hr, hcl⟩ := hc p (List.mem_cons_self ..)
    have hfa : FN (wordsOf s (i + 1 + andW.length + 1 + p.2.length)) ∧ Stop (q ++ rest) := by
      cases l with
      | nil =>
        have : q = [] := by rw [← hq]; rfl
        subst this
        exact ⟨hF.1, hs⟩
      | cons p2 l2 =>
        rw [List.map_cons, tail_cons] at hq
        have d5 : s.drop (i + 1 + andW.length + 1 + p.2.length) = 32 :: (andW ++ 32 :: (p2.2 ++ joinTail [32, 97, 110, 100, 32] (l2.map (·.2)) ++ rest)) := by rw [d4, ← hq]; simp [andW]
        have d6 : s.drop (i + 1 + andW.length + 1 + p.2.length + 1) = andW ++ 32 :: (p2.2 ++ joinTail [32, 97, 110, 100, 32] (l2.map (·.2)) ++ rest) := drop_split (w := [32]) d5
        refine ⟨?_, by rw [← hq]; exact stop_cons (.inl rfl)⟩
        rw [blank_at d5, name_at d6 (c := 97) (r := [110, 100]) rfl (by decide) (by decide) (not_word (by decide)) (prev_blank d5)]
        exact fn_and
    have hs1 := hcl.not hr _ _ d3 hfa.2 (prev_blank d2) hfa.1
    have ih := andL_run l (acc ++ [p.1]) _ rest (fun b hb => hc b (List.mem_cons_of_mem _ hb)) (by rw [hq]; exact d4) hs (by rw [hq]; exact hF)
    rw [hq] at ih
    rw [blank_at d0, name_at d1 (c := 97) (r := [110, 100]) rfl (by decide) (by decide) (not_word (by decide)) (prev_blank d0), Pz_eq]
    dsimp only [stepP]
    rw [if_pos (by rw [isW_cons]; simp)]
    dsimp only [List.tail_cons]
    rw [blank_at d2, hs1]
    dsimp only [Res.bind]
    rw [ih, List.append_assoc]
    rfl
theorem or_stop {sep rest : List UInt8} {l : List (List UInt8)} (hsep : ∃ t, sep = 32 :: t) (hs : Stop rest) : Stop (joinTail sep l ++ rest) := by
  obtain ⟨t, rfl⟩ := hsep
  cases l with
  | nil => exact hs
  | cons a r => rw [tail_cons]; exact stop_cons (.inl rfl)
/-- or -/
theorem cl_or {e : Ex} {l : List (Ex × List UInt8)} (he : e = mkOp 3 (l.map (·.1))) (h2 : 2 ≤ l.length) (hc : ∀ p ∈ l, ∃ r, 2 ≤ r ∧ ClW s p.2 p.1 r) : ClW s (join (l.map (·.2)) [32, 111, 114, 32]) e 1 := by
  match l, h2, he, hc with
  | p :: p2 :: l, _, he, hc =>
    rw [List.map_cons, join_cons]
    obtain ⟨r, hr, hcl⟩ := hc p (List.mem_cons_self ..)
    refine ClW.of1 ?_ (by simp [hcl.ne])
    intro i rest h1 h2 h3 hF
    rw [List.append_assoc] at h1
    have d1 := drop_split h1
    have ep : i + (p.2 ++ joinTail [32, 111, 114, 32] ((p2 :: l).map (·.2))).length = i + p.2.length + (joinTail [32, 111, 114, 32] ((p2 :: l).map (·.2))).length := by
      simp only [List.length_append]; omega
    rw [ep] at hF ⊢
    have hor : FA (wordsOf s (i + p.2.length)) := by
      have d5 : s.drop (i + p.2.length) = 32 :: (orW ++ 32 :: (p2.2 ++ joinTail [32, 111, 114, 32] (l.map (·.2)) ++ rest)) := by rw [d1, List.map_cons, tail_cons]; simp [orW]
      have d6 : s.drop (i + p.2.length + 1) = orW ++ 32 :: (p2.2 ++ joinTail [32, 111, 114, 32] (l.map (·.2)) ++ rest) := drop_split (w := [32]) d5
      rw [blank_at d5, name_at d6 (c := 111) (r := [114]) rfl (by decide) (by decide) (not_word (by decide)) (prev_blank d5)]
      exact fa_or
    have hs1 := hcl.and hr i _ h1 (or_stop ⟨_, rfl⟩ h2) h3 hor
    have hs2 := orL_run (p2 :: l) [p.1] _ rest (fun b hb => hc b (List.mem_cons_of_mem _ hb)) d1 h2 hF
    rw [Pz_eq]
    dsimp only [stepP]
    rw [hs1]
    dsimp only [Res.bind]
    rw [hs2, he]
    rfl
/-- and -/
theorem cl_and {e : Ex} {l : List (Ex × List UInt8)} (he : e = mkOp 2 (l.map (·.1))) (h2 : 2 ≤ l.length) (hc : ∀ p ∈ l, ∃ r, 3 ≤ r ∧ ClW s p.2 p.1 r) : ClW s (join (l.map (·.2)) [32, 97, 110, 100, 32]) e 2 := by
  match l, h2, he, hc with
  | p :: p2 :: l, _, he, hc =>
    rw [List.map_cons, join_cons]
    obtain ⟨r, hr, hcl⟩ := hc p (List.mem_cons_self ..)
    refine ClW.of2 ?_ (by simp [hcl.ne])
    intro i rest h1 h2 h3 hF
    rw [List.append_assoc] at h1
    have d1 := drop_split h1
    have ep : i + (p.2 ++ joinTail [32, 97, 110, 100, 32] ((p2 :: l).map (·.2))).length = i + p.2.length + (joinTail [32, 97, 110, 100, 32] ((p2 :: l).map (·.2))).length := by
      simp only [List.length_append]; omega
    rw [ep] at hF ⊢
    have hor : FN (wordsOf s (i + p.2.length)) := by
      have d5 : s.drop (i + p.2.length) = 32 :: (andW ++ 32 :: (p2.2 ++ joinTail [32, 97, 110, 100, 32] (l.map (·.2)) ++ rest)) := by rw [d1, List.map_cons, tail_cons]; simp [andW]
      have d6 : s.drop (i + p.2.length + 1) = andW ++ 32 :: (p2.2 ++ joinTail [32, 97, 110, 100, 32] (l.map (·.2)) ++ rest) := drop_split (w := [32]) d5
      rw [blank_at d5, name_at d6 (c := 97) (r := [110, 100]) rfl (by decide) (by decide) (not_word (by decide)) (prev_blank d5)]
      exact fn_and
    have hs1 := hcl.not hr i _ h1 (or_stop ⟨_, rfl⟩ h2) h3 hor
    have hs2 := andL_run (p2 :: l) [p.1] _ rest (fun b hb => hc b (List.mem_cons_of_mem _ hb)) d1 h2 hF
    rw [Pz_eq]
    dsimp only [stepP]
    rw [hs1]
    dsimp only [Res.bind]
    rw [hs2, he]
    rfl
end
end Go.Proofs.YtobanldeicclmaaGreatDoor
namespace Go.Proofs.YtobanldeicclmaaGreatDoor
open Vtx Go.Lib Dig
theorem snd_head {k n : Int} {t : List UInt8} {l : List Int} (h : Snd k n t l) (hk : k ≠ 0 ∧ k ≠ 1) (hn : ¬ (k = 2 ∧ 0 ≤ n)) : ∃ c r, showT k n t l = c :: r ∧ c ≠ 32 ∧ digB c = false := by
  cases h with
  | none_ => exact absurd rfl hk.1
  | word h1 h2 => exact absurd rfl hk.2
  | num h1 h2 =>
    obtain ⟨F, M, -, -, -, e⟩ := num_parts h1 h2
    rw [if_pos (by omega)] at e
    exact ⟨45, _, by rw [show showT 2 n [] [] = numT n from rfl, e, List.append_assoc]; rfl, by decide, by decide⟩
  | text s => exact ⟨39, _, rfl, by decide, by decide⟩
  | code h1 h2 => exact ⟨35, _, rfl, by decide, by decide⟩
  | set h => exact ⟨123, _, rfl, by decide, by decide⟩
  | day h1 h2 => exact ⟨64, _, rfl, by decide, by decide⟩
  | bool h1 h2 =>
    show ∃ c r, (if n = 1 then trueT else falseT) = c :: r ∧ c ≠ 32 ∧ digB c = false
    split
    · exact ⟨116, _, rfl, by decide, by decide⟩
    · exact ⟨102, _, rfl, by decide, by decide⟩
theorem fn_head {w : List UInt8} (h : Fn w) : ∃ c r, w = c :: r ∧ c ≠ 32 ∧ digB c = false := by
  obtain ⟨c, r, e, hc, -⟩ := h.ex
  refine ⟨c, r, e, ne_of_low hc (by decide), ?_⟩
  cases hd : digB c with
  | false => rfl
  | true => rw [dig_low hd] at hc; cases hc
theorem row_op {e : Ex} (hk : e.k = 4) (h : 7 ≤ rowN e) (ho : 1 ≤ e.op ∧ e.op ≤ 39) : e.op = 20 ∨ (12 ≤ e.op ∧ e.op ≤ 14) ∨ (21 ≤ e.op ∧ e.op ≤ 39) := by
  unfold rowN at h
  rw [if_neg (by omega), if_neg (by omega)] at h
  by_cases h3 : e.op = 3
  · rw [if_pos h3] at h; omega
  by_cases h2 : e.op = 2
  · rw [if_neg h3, if_pos h2] at h; omega
  by_cases h1 : e.op = 1
  · rw [if_neg h3, if_neg h2, if_pos h1] at h; omega
  rw [if_neg h3, if_neg h2, if_neg h1] at h
  by_cases h4 : 4 ≤ e.op ∧ e.op ≤ 11
  · rw [if_pos h4] at h; omega
  rw [if_neg h4] at h
  by_cases h5 : e.op = 15 ∨ e.op = 16
  · rw [if_pos h5] at h; omega
  rw [if_neg h5] at h
  by_cases h6 : e.op = 17 ∨ e.op = 18 ∨ e.op = 19
  · rw [if_pos h6] at h; omega
  omega
theorem text_head {a : Ex} (hs : Shape a) (hr : 7 ≤ rowN a) (hn : ¬ (a.k = 1 ∧ a.v.k = 2 ∧ 0 ≤ a.v.n)) : ∃ c r, a.text = c :: r ∧ c ≠ 32 ∧ digB c = false := by
  rw [text_eq]
  have hk := hs.k
  by_cases k1 : a.k = 1
  · rw [if_pos k1]
    obtain ⟨h0, h1, hc⟩ := hs.c k1
    exact snd_head (snd_of hc).1 ⟨h0, h1⟩ (fun h => hn ⟨k1, h⟩)
  rw [if_neg k1]
  by_cases k2 : a.k = 2
  · rw [if_pos k2]
    obtain ⟨c, r, e, hc, hr, hres⟩ := name_parts (hs.n (.inl k2))
    refine ⟨c, r, e, ne_of_low hc (by decide), ?_⟩
    cases hd : digB c with
    | false => rfl
    | true => rw [dig_low hd] at hc; cases hc
  rw [if_neg k2]
  by_cases k3 : a.k = 3
  · rw [if_pos k3]; exact ⟨114, _, rfl, by decide, by decide⟩
  rw [if_neg k3]
  by_cases k5 : a.k = 5
  · rw [if_pos k5]
    obtain ⟨c, r, e, h1, h2⟩ := fn_head (fn_over (hs.op5 k5)).1
    exact ⟨c, _, by rw [e]; rfl, h1, h2⟩
  rw [if_neg k5]
  have k4 : a.k = 4 := by omega
  have ho := hs.op4 k4
  have hop := row_op k4 hr ho
  rw [if_neg (by omega), if_neg (by omega), if_neg (by omega), if_neg (by omega), if_neg (by omega), if_neg (by omega)]
  rcases hop with h20 | hop
  · rw [if_pos h20]
    split
    · exact ⟨45, _, rfl, by decide, by decide⟩
    · exact ⟨45, _, rfl, by decide, by decide⟩
  · rw [if_neg (by omega)]
    obtain ⟨c, r, e, h1, h2⟩ := fn_head (fn_op hop).1
    exact ⟨c, _, by rw [e]; rfl, h1, h2⟩
theorem len_two' {l : List Ex} (h : l.length = 2) : ∃ a b, l = [a, b] := by
  match l, h with
  | [a, b], _ => exact ⟨a, b, rfl⟩
theorem len_one' {l : List Ex} (h : l.length = 1) : ∃ a, l = [a] := by
  match l, h with
  | [a], _ => exact ⟨a, rfl⟩
theorem ar_two {o : Int} (h : (4 ≤ o ∧ o ≤ 11) ∨ (15 ≤ o ∧ o ≤ 19)) : arOf o = (2, 2) := by
  unfold arOf
  rw [if_neg (by omega), if_neg (by omega), if_neg (by omega), if_pos (by omega)]
/-- every right expression is read back -/
theorem text_cl (s : List UInt8) (e : Ex) : e.fault = 0 → ClW s e.text e (rowN e) := by
  induction e using Ex.ind with
  | h e ih =>
    intro hf
    have hs := shape_of (fault_part hf)
    have ihc : ∀ a ∈ e.ar, ClW s a.text a (rowN a) := fun a ha => ih a ha (fault_arg hf a ha)
    have hk := hs.k
    rw [text_eq]
    by_cases k1 : e.k = 1
    · rw [if_pos k1]
      by_cases hn : e.v.k = 2 ∧ e.v.n < 0
      · have : rowN e = 7 := by unfold rowN; rw [if_pos ⟨k1, hn⟩]
        rw [this]; exact cl_neg_const hs k1 hn
      · have : rowN e = 8 := by unfold rowN; rw [if_neg (fun h => hn h.2), if_pos (by omega)]
        rw [this]; exact cl_const hs k1 hn
    rw [if_neg k1]
    have r8 : e.k ≠ 4 → rowN e = 8 := fun h => by unfold rowN; rw [if_neg (by omega), if_pos h]
    by_cases k2 : e.k = 2
    · rw [if_pos k2, r8 (by omega)]; exact cl_name hs k2
    rw [if_neg k2]
    by_cases k3 : e.k = 3
    · rw [if_pos k3, r8 (by omega)]; exact cl_row hs k3
    rw [if_neg k3]
    by_cases k5 : e.k = 5
    · rw [if_pos k5, r8 (by omega)]
      obtain ⟨a, ha⟩ := len_one' (hs.a5 k5)
      rw [ins0, ha]
      exact cl_over hs k5 ha (ihc a (by rw [ha]; exact List.mem_cons_self ..))
    rw [if_neg k5]
    have k4 : e.k = 4 := by omega
    have ho := hs.op4 k4
    have h4 := hs.a4 k4
    have he : e = mkOp e.op e.ar := ex_ext k4 rfl (hs.nm (by omega) (by omega) (by omega)) (hs.v (by omega)) rfl
    have hrow : rowN e = (if e.op = 3 then 1 else if e.op = 2 then 2 else if e.op = 1 then 3 else if 4 ≤ e.op ∧ e.op ≤ 11 then 4 else if e.op = 15 ∨ e.op = 16 then 5 else if e.op = 17 ∨ e.op = 18 ∨ e.op = 19 then 6 else if e.op = 20 then 7 else 8) := by
      unfold rowN; rw [if_neg (by omega), if_neg (by omega)]
    rw [hrow]
    have hins : ∀ (least : Int), (e.ar.map fun a => (a, parT (decide (rowN a < least)) a.text)).map (·.2) = insL least e.ar ∧ (e.ar.map fun a => (a, parT (decide (rowN a < least)) a.text)).map (·.1) = e.ar := fun least => by
      rw [List.map_map, List.map_map, insL_map]
      exact ⟨rfl, by simp [Function.comp_def]⟩
    have hparts : ∀ (least : Int), least ≤ 8 → ∀ p ∈ e.ar.map (fun a => (a, parT (decide (rowN a < least)) a.text)), ∃ r, least ≤ r ∧ ClW s p.2 p.1 r := fun least hl p hp => by
      obtain ⟨a, ha, rfl⟩ := List.mem_map.1 hp
      exact part_cl (ihc a ha) least hl
    by_cases o3 : e.op = 3
    · rw [if_pos o3, if_pos o3, ← (hins 2).1]
      exact cl_or (by rw [(hins 2).2, ← o3]; exact he) (by rw [List.length_map]; have := h4.1; rw [o3] at this; simpa [arOf] using this) (hparts 2 (by decide))
    rw [if_neg o3, if_neg o3]
    by_cases o2 : e.op = 2
    · rw [if_pos o2, if_pos o2, ← (hins 3).1]
      exact cl_and (by rw [(hins 3).2, ← o2]; exact he) (by rw [List.length_map]; have := h4.1; rw [o2] at this; simpa [arOf] using this) (hparts 3 (by decide))
    rw [if_neg o2, if_neg o2]
    by_cases o1 : e.op = 1
    · rw [if_pos o1, if_pos o1]
      have e1 : arOf e.op = (1, 1) := by rw [o1]; rfl
      rw [e1] at h4
      obtain ⟨a, ha⟩ := len_one' (show e.ar.length = 1 by dsimp only at h4; omega)
      obtain ⟨r, hr, hcl⟩ := part_cl (ihc a (by rw [ha]; exact List.mem_cons_self ..)) 3 (by decide)
      rw [ha, insL_map]
      exact cl_not (by rw [← ha, ← o1]; exact he) hr hcl
    rw [if_neg o1, if_neg o1]
    have two : (4 ≤ e.op ∧ e.op ≤ 11) ∨ (15 ≤ e.op ∧ e.op ≤ 19) → ∃ a b, e.ar = [a, b] := fun h => by
      rw [ar_two h] at h4
      exact len_two' (by dsimp only at h4; omega)
    by_cases o4 : 4 ≤ e.op ∧ e.op ≤ 11
    · rw [if_pos o4, if_pos o4]
      obtain ⟨a, b, ha⟩ := two (.inl o4)
      obtain ⟨ra, hra, hca⟩ := part_cl (ihc a (by rw [ha]; simp)) 5 (by decide)
      obtain ⟨rb, hrb, hcb⟩ := part_cl (ihc b (by rw [ha]; simp)) 5 (by decide)
      rw [ha, insL_map]
      exact cl_cmp (by rw [← ha]; exact he) o4 hra hrb hca hcb
    rw [if_neg o4, if_neg o4]
    by_cases o5 : e.op = 15 ∨ e.op = 16
    · rw [if_pos o5, if_pos o5]
      obtain ⟨a, b, ha⟩ := two (by omega)
      obtain ⟨ra, hra, hca⟩ := part_cl (ihc a (by rw [ha]; simp)) 5 (by decide)
      obtain ⟨rb, hrb, hcb⟩ := part_cl (ihc b (by rw [ha]; simp)) 6 (by decide)
      rw [ha, insL_map, insL_map]
      exact cl_sum (by rw [← ha]; exact he) o5 hra hrb hca hcb
    rw [if_neg o5, if_neg o5]
    by_cases o6 : e.op = 17 ∨ e.op = 18 ∨ e.op = 19
    · rw [if_pos o6, if_pos o6]
      obtain ⟨a, b, ha⟩ := two (by omega)
      obtain ⟨ra, hra, hca⟩ := part_cl (ihc a (by rw [ha]; simp)) 6 (by decide)
      obtain ⟨rb, hrb, hcb⟩ := part_cl (ihc b (by rw [ha]; simp)) 7 (by decide)
      rw [ha, insL_map, insL_map]
      exact cl_product (by rw [← ha]; exact he) o6 hra hrb hca hcb
    rw [if_neg o6, if_neg o6]
    by_cases o7 : e.op = 20
    · rw [if_pos o7, if_pos o7]
      have e1 : arOf e.op = (1, 1) := by rw [o7]; rfl
      rw [e1] at h4
      obtain ⟨a, ha⟩ := len_one' (show e.ar.length = 1 by dsimp only at h4; omega)
      have ham : a ∈ e.ar := by rw [ha]; exact List.mem_cons_self ..
      have he' : e = mkOp 20 [a] := by rw [← ha, ← o7]; exact he
      by_cases hneg : headNeg e.ar = true
      · rw [if_pos hneg, ins0, ha]
        exact cl_neg he' (by decide : (7 : Int) ≤ 8) (paren (ihc a ham)) ⟨40, _, rfl, by decide, by decide⟩
      · rw [if_neg hneg, ha, insL_map]
        obtain ⟨r, hr, hcl⟩ := part_cl (ihc a ham) 7 (by decide)
        refine cl_neg he' hr hcl ?_
        show ∃ c r, parT (decide (rowN a < 7)) a.text = c :: r ∧ c ≠ 32 ∧ digB c = false
        unfold parT
        by_cases hra : rowN a < 7
        · rw [decide_eq_true hra, if_pos rfl]
          exact ⟨40, _, rfl, by decide, by decide⟩
        · rw [decide_eq_false hra, if_neg (by decide)]
          refine text_head (shape_of (fault_part (fault_arg hf a ham))) (by omega) (fun h => hneg ?_)
          rw [ha]
          unfold headNeg
          simp [h.1, h.2.1, h.2.2]
    rw [if_neg o7, if_neg o7]
    exact cl_fun hs k4 (by omega) ihc
/-- what is read of a printed text -/
theorem print_parse {e : Ex} (h : checkE e = 0) (hl : e.text.length ≤ 4000) : parseF e.text = (e, 0, 0) := by
  have hf : e.fault = 0 := by
    unfold checkE at h
    split at h
    · exact absurd h (by decide)
    · exact h
  have hd : e.text.drop 0 = e.text ++ [] := by simp
  have he : wordsOf e.text (0 + e.text.length) = [] := end_at (by simp)
  have hr := (text_cl e.text e hf).or 0 [] hd (fun c r h => by cases h) (.inl rfl) (by rw [he]; exact fo_nil)
  rw [he] at hr
  unfold parseF
  rw [if_neg (by omega), parse_top, hr]
  simp [h]
end Go.Proofs.YtobanldeicclmaaGreatDoor
namespace Go.Proofs.YtobanldeicclmaaGreatDoor
open Go.RowKit Vtx
attribute [local go_sem ↓] Go.wp_at_zero Go.wp_at_succ
theorem txb_data (l : List UInt8) : (tx l).data.toList = l := by simp [tx]
theorem txb_len (l : List UInt8) : (tx l).size = l.length := by simp [tx, ByteArray.size]
theorem zero_back {e : Ex} {s : List UInt8} (hl : s.length ≤ 4000) (h : parseF s = (e, 0, 0)) (x : Ex) (hx : Pz s.length .or [] (wordsOf s 0) = .ok [x] []) : x = e := by
  rw [parseF_eq s hl, hx] at h
  have h : (if checkE x ≠ 0 then (((.mk 0 0 ⟨#[]⟩ zeroX [] : Ex), 0, checkE x) : Ex × Nat × Int) else (x, 0, 0)) = (e, 0, 0) := h
  split at h
  · rename_i hc
    injection h with h1 h2
    injection h2 with h3 h4
    exact absurd h4 hc
  · injection h
set_option maxHeartbeats 2000000 in
set_option maxRecDepth 100000 in
theorem comes_any (e : Ex) (B : Nat) (cs : List Value) (w : World) (hx : ExAt w B e cs) (hB : B ≤ w.heap.size) (hp : e.parts ≤ 1000000) (htab : Tab w) (hm : Mx w) :
    Calls Tryz.prog 3 #[.agg cs.toArray] w fun en w' => en = .returned (.bool true) ∧ Below w.heap.size w w' := by
  have HX := Lib.hid hx
  have HTM := Lib.hid (And.intro htab hm)
  have HPR := Lib.hid (fun w' (hb : Below w.heap.size w w') => Print_any e B cs w' (HX.out.keep (hb.mono hB)) (Nat.le_trans hB hb.size) (by omega) (HTM.out.1.below hb) (HTM.out.2.below hb))
  obtain ⟨r1, hr1⟩ : ∃ r, (printF e).1 = r := ⟨_, rfl⟩
  obtain ⟨r2, hr2⟩ : ∃ r, (printF e).2 = r := ⟨_, rfl⟩
  have hgood : r2 = 0 → r1 = e.text ∧ checkE e = 0 ∧ e.text.length ≤ 4000 := by
    intro h0
    rw [h0] at hr2
    unfold printF at hr1 hr2
    by_cases hc : checkE e = 0
    · by_cases hl : 4000 < e.text.length
      · rw [if_neg (fun h => h hc), if_pos hl] at hr2
        exact absurd hr2 (show ¬ ((2 : Int) = 0) by decide)
      · rw [if_neg (fun h => h hc), if_neg hl] at hr1
        exact ⟨hr1.symm, hc, by omega⟩
    · rw [if_pos hc] at hr2
      exact absurd hr2 hc
  rw [hr1, hr2] at HPR
  have HGD := Lib.hid hgood
  obtain ⟨hn, hs, hl, ha, hx, hr, hi⟩ := hx
  rename_i A1 c1 A2 c2 csi
  clear hx hr hi htab hm hr1 hr2 hgood
  show Calls Tryz.prog 3 #[.agg #[.int .i64 e.k, .int .i64 e.op, .string e.nm, .int .i64 e.v.k, .int .i64 e.v.n, .string e.v.s, .slice A1 e.v.l.length c1, .slice A2 e.ar.length c2]] w _
  go_enter Tryz.func3, Tryz.ntmps3
  go_upto_region 1 with (fail)
  obtain ⟨W, hW⟩ : ∃ W, W = w.alloc (.cells #[.int .i64 e.k, .int .i64 e.op, .string e.nm, .int .i64 e.v.k, .int .i64 e.v.n, .string e.v.s, .slice A1 e.v.l.length c1, .slice A2 e.ar.length c2] 27 (0, 0)) := ⟨_, rfl⟩
  have hbw : Below w.heap.size w W := by rw [hW]; exact (Below.refl _ w).alloc (Nat.le_refl _) _
  have HBE := Lib.hid (show Blk W w.heap.size 27 #[.int .i64 e.k, .int .i64 e.op, .string e.nm, .int .i64 e.v.k, .int .i64 e.v.n, .string e.v.s, .slice A1 e.v.l.length c1, .slice A2 e.ar.length c2] by rw [hW]; exact Blk.new w _ _)
  rw [← hW]
  clear hW
  have BE := HBE.out
  have xc0 : W.cell? ⟨w.heap.size, 0, none⟩ = some (.int .i64 e.k) := BE.cell 0
  have xc1 : W.cell? ⟨w.heap.size, 1, none⟩ = some (.int .i64 e.op) := BE.cell 1
  have xc2 : W.cell? ⟨w.heap.size, 2, none⟩ = some (.string e.nm) := BE.cell 2
  have xc3 : W.cell? ⟨w.heap.size, 3, none⟩ = some (.int .i64 e.v.k) := BE.cell 3
  have xc4 : W.cell? ⟨w.heap.size, 4, none⟩ = some (.int .i64 e.v.n) := BE.cell 4
  have xc5 : W.cell? ⟨w.heap.size, 5, none⟩ = some (.string e.v.s) := BE.cell 5
  have xc6 : W.cell? ⟨w.heap.size, 6, none⟩ = some (.slice A1 e.v.l.length c1) := BE.cell 6
  have xc7 : W.cell? ⟨w.heap.size, 7, none⟩ = some (.slice A2 e.ar.length c2) := BE.cell 7
  go_wp2_with fail
  refine (HPR.out W hbw).mono ?_
  rintro en w1 ⟨rfl, hb1⟩
  have hbw1 := hbw.trans (hb1.mono hbw.size)
  have HBE1 := Lib.hid (HBE.out.below hb1 HBE.out.lt)
  clear hb1 hbw xc0 xc1 xc2 xc3 xc4 xc5 xc6 xc7 BE
  by_cases h0 : r2 = 0
  · obtain ⟨ht, hc, hl4⟩ := HGD.out h0
    subst h0
    subst ht
    have hpp := print_parse hc hl4
    have HPA := Lib.hid (fun w' (hb : Below w.heap.size w w') => Parse_any (tx e.text) w' (by rw [txb_len]; unfold maxLen; omega) (HTM.out.1.below hb) (HTM.out.2.below hb) (fun x h => by
      rw [txb_data] at h
      have h1 := zero_back hl4 hpp x h
      rw [h1]; omega))
    rw [txb_data, hpp] at HPA
    clear hpp hc hl4
    go_wp2_with fail
    refine (HPA.out w1 hbw1).mono ?_
    rintro en w2 ⟨A3, c3, A4, c4, rfl, hin, hb2⟩
    have HIN := Lib.hid hin
    rw [show (exCells e A3 c3 A4 c4).toArray = #[.int .i64 e.k, .int .i64 e.op, .string e.nm, .int .i64 e.v.k, .int .i64 e.v.n, .string e.v.s, .slice A3 e.v.l.length c3, .slice A4 e.ar.length c4] from rfl]
    have hbw2 := hbw1.trans (hb2.mono hbw1.size)
    have HBE2 := Lib.hid (HBE1.out.below hb2 HBE1.out.lt)
    have hgw : w1.heap.size ≤ w2.heap.size := hb2.size
    clear hin hb2 hbw1
    go_upto_region 5 with (fail)
    obtain ⟨W2, hW2⟩ : ∃ W2, W2 = w2.alloc (.cells #[.int .i64 e.k, .int .i64 e.op, .string e.nm, .int .i64 e.v.k, .int .i64 e.v.n, .string e.v.s, .slice A3 e.v.l.length c3, .slice A4 e.ar.length c4] 27 (0, 0)) := ⟨_, rfl⟩
    have hb3 : Below w2.heap.size w2 W2 := hW2 ▸ (Below.refl _ w2).alloc (Nat.le_refl _) _
    have BK : Blk W2 w2.heap.size 27 #[.int .i64 e.k, .int .i64 e.op, .string e.nm, .int .i64 e.v.k, .int .i64 e.v.n, .string e.v.s, .slice A3 e.v.l.length c3, .slice A4 e.ar.length c4] := hW2 ▸ Blk.new w2 _ _
    have BE3 := HBE2.out.below hb3 HBE2.out.lt
    have hbw3 := hbw2.trans (hb3.mono hbw2.size)
    have HAT := Lib.hid (show ExAt W2 W2.heap.size e (exCells e A3 c3 A4 c4) from ((HIN.out.keep (Stay.of hb3)).up hb3.size).at_)
    rw [← hW2]
    clear hW2 hb3
    have xc0 : W2.cell? ⟨w.heap.size, 0, none⟩ = some (.int .i64 e.k) := BE3.cell 0
    have xc1 : W2.cell? ⟨w.heap.size, 1, none⟩ = some (.int .i64 e.op) := BE3.cell 1
    have xc2 : W2.cell? ⟨w.heap.size, 2, none⟩ = some (.string e.nm) := BE3.cell 2
    have xc3 : W2.cell? ⟨w.heap.size, 3, none⟩ = some (.int .i64 e.v.k) := BE3.cell 3
    have xc4 : W2.cell? ⟨w.heap.size, 4, none⟩ = some (.int .i64 e.v.n) := BE3.cell 4
    have xc5 : W2.cell? ⟨w.heap.size, 5, none⟩ = some (.string e.v.s) := BE3.cell 5
    have xc6 : W2.cell? ⟨w.heap.size, 6, none⟩ = some (.slice A1 e.v.l.length c1) := BE3.cell 6
    have xc7 : W2.cell? ⟨w.heap.size, 7, none⟩ = some (.slice A2 e.ar.length c2) := BE3.cell 7
    have yc0 : W2.cell? ⟨w2.heap.size, 0, none⟩ = some (.int .i64 e.k) := BK.cell 0
    have yc1 : W2.cell? ⟨w2.heap.size, 1, none⟩ = some (.int .i64 e.op) := BK.cell 1
    have yc2 : W2.cell? ⟨w2.heap.size, 2, none⟩ = some (.string e.nm) := BK.cell 2
    have yc3 : W2.cell? ⟨w2.heap.size, 3, none⟩ = some (.int .i64 e.v.k) := BK.cell 3
    have yc4 : W2.cell? ⟨w2.heap.size, 4, none⟩ = some (.int .i64 e.v.n) := BK.cell 4
    have yc5 : W2.cell? ⟨w2.heap.size, 5, none⟩ = some (.string e.v.s) := BK.cell 5
    have yc6 : W2.cell? ⟨w2.heap.size, 6, none⟩ = some (.slice A3 e.v.l.length c3) := BK.cell 6
    have yc7 : W2.cell? ⟨w2.heap.size, 7, none⟩ = some (.slice A4 e.ar.length c4) := BK.cell 7
    go_wp2_with fail
    refine (sameX_any e W2.heap.size B (exCells e A3 c3 A4 c4) _ W2 HAT.out (HX.out.keep (hbw3.mono hB)) (Nat.le_refl _) (Nat.le_trans hB hbw3.size)).mono ?_
    rintro en w4 ⟨rfl, hb4⟩
    go_wp2_with fail
    go_ret
    exact ⟨by rfl, hbw3.trans (hb4.mono hbw3.size)⟩
  · have bf : (r2 == 0) = false := by simp [h0]
    clear h0
    go_wp2_with fail
    go_ret
    exact ⟨by rfl, hbw1⟩
end Go.Proofs.YtobanldeicclmaaGreatDoor
