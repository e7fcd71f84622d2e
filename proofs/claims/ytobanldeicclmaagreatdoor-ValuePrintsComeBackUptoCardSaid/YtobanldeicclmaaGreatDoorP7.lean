/- PLAIN. Printed texts are read back: constants, names, calls. · PLAIN. Sets in which blanks stand: the program's way and the reference's way of reading them agree. · PLAIN. What the words of a text know of one another. · The walks of the program's lexer: spans, quoted texts. -/
import Derived.Test.YtobanldeicclmaaGreatDoorP6
import Derived.Lib.SlTrimSet
import Derived.Test.YtobanldeicclmaaGreatDoorP2
namespace Go.Proofs.YtobanldeicclmaaGreatDoor
open Vtx Go.Lib Dig
theorem val_of {x v : Val} (h : (⟨x.k, x.n, x.s.data.toList, x.l⟩ : Q) = ⟨v.k, v.n, v.s.data.toList, v.l⟩) : x = v := by
  obtain ⟨k, n, s, l⟩ := x
  obtain ⟨k', n', s', l'⟩ := v
  injection h with h1 h2 h3 h4
  simp only at h1 h2 h3 h4
  have hs : s = s' := ByteArray.ext (Array.toList_inj.1 h3)
  subst h1 h2 hs h4
  rfl
theorem readF_show {v : Val} (h : checkV v = 0) : readF (showT v.k v.n v.s.data.toList v.l) = some v := by
  have hex : ∃ x : Val, checkV x = 0 ∧ showT x.k x.n x.s.data.toList x.l = showT v.k v.n v.s.data.toList v.l := ⟨v, h, rfl⟩
  unfold readF
  rw [dif_pos hex]
  have hx := hex.choose_spec
  have h1 := guess_show (snd_of hx.1).1
  rw [hx.2, guess_show (snd_of h).1] at h1
  rw [val_of (Option.some.inj h1).symm]
theorem tightF_id : ∀ (w : List UInt8) (f : Nat) (out : List UInt8), w.length < f → (32 : UInt8) ∉ w → tightF f out w = out ++ w
  | [], f + 1, out, _, _ => by simp [tightF]
  | c :: r, f + 1, out, h, hn => by
    rw [tightF, if_pos (fun e => hn (by rw [e]; exact List.mem_cons_self ..)), tightF_id r f _ (by simpa using h) (fun e => hn (List.mem_cons_of_mem _ e))]
    simp
  | [], 0, _, h, _ => by simp at h
  | c :: r, 0, _, h, _ => by simp at h
theorem tight_id {w : List UInt8} (h : (32 : UInt8) ∉ w) : tightT w = w := by
  unfold tightT
  rw [tightF_id w _ [] (Nat.lt_succ_self _) h]; rfl
theorem no_join {x : UInt8} (hx : x ≠ 44) : ∀ {l : List (List UInt8)}, (∀ p ∈ l, x ∉ p) → x ∉ join l [44] := by
  have ht : ∀ l : List (List UInt8), (∀ p ∈ l, x ∉ p) → x ∉ joinTail [44] l := by
    intro l h hm
    unfold joinTail at hm
    rw [List.mem_flatten] at hm
    obtain ⟨q, hq, hxq⟩ := hm
    rw [List.mem_map] at hq
    obtain ⟨p, hp, rfl⟩ := hq
    rcases List.mem_append.1 hxq with h1 | h1
    · exact hx (by simpa using h1)
    · exact h p hp h1
  intro l h
  cases l with
  | nil => rw [join_nil]; simp
  | cons a r =>
    rw [join_cons]
    intro hm
    rcases List.mem_append.1 hm with h1 | h1
    · exact h a (List.mem_cons_self ..) h1
    · exact ht r (fun p hp => h p (List.mem_cons_of_mem _ hp)) h1
theorem pa_head_ne {c d : UInt8} {a b : List UInt8} (h : c ≠ d) : c :: a ≠ d :: b := fun e => h (List.cons.inj e).1
theorem brace_no {c : UInt8} {a : List UInt8} (h : c ≠ 123) {p : Prop} : braceB (c :: a) = true → p := fun e => absurd (of_decide_eq_true e) h
theorem nd {b : UInt8} (h : digB b = false) : ¬ isDig b := fun e => by rw [digB_is e] at h; cases h
structure CW (w : List UInt8) : Prop where
  len : ∀ rest, Stop rest → wordLen (w ++ rest) = w.length
  head : ∃ c w', w = c :: w' ∧ c ≠ 32
  const : constB w = true
  brace : braceB w = true → (32 : UInt8) ∉ w
  n45 : w ≠ [45]
  nn : w ≠ notW
theorem stop_stopB {rest : List UInt8} (h : Stop rest) : ∀ c r, rest = c :: r → stopB c = false := stop_not h (by decide) (by decide) (by decide)
theorem stop_hyphB {rest : List UInt8} (h : Stop rest) : ∀ c r, rest = c :: r → hyphB c = false := stop_not h (by decide) (by decide) (by decide)
theorem stop_digB {rest : List UInt8} (h : Stop rest) : ∀ c r, rest = c :: r → digB c = false := stop_not h (by decide) (by decide) (by decide)
theorem stop_wordB {rest : List UInt8} (h : Stop rest) : ∀ c r, rest = c :: r → wordB c = false := stop_not h (by decide) (by decide) (by decide)
/-- the digits of a number -/
theorem num_word (F M : Nat) : ∃ b r, decDigits F ++ (if fracT M = [] then [] else 46 :: fracT M) = b :: r ∧ digB b = true ∧ (∀ c ∈ r, stopB c = true) := by
  obtain ⟨b, r, e, hb⟩ := dec_head_dig F
  refine ⟨b, r ++ (if fracT M = [] then [] else 46 :: fracT M), by rw [e]; rfl, digB_is hb, fun c hc => ?_⟩
  have hd : ∀ c, isDig c → stopB c = true := fun c h => by unfold stopB; rw [digB_is h]; rfl
  rcases List.mem_append.1 hc with h | h
  · exact hd c (dig_dec F c (by rw [e]; exact List.mem_cons_of_mem _ h))
  · split at h
    · cases h
    · rcases List.mem_cons.1 h with h | h
      · subst h; decide
      · exact hd c (frac_dig M c h)
theorem cw_dig {b : UInt8} {r : List UInt8} (hb : digB b = true) (hr : ∀ c ∈ r, stopB c = true) : CW (b :: r) :=
  ⟨fun rest h => len_num hb hr (stop_stopB h), ⟨b, r, rfl, ne_of_dig hb (by decide)⟩, by unfold constB; simp only [hb]; rfl,
    brace_no (ne_of_dig hb (by decide)), pa_head_ne (ne_of_dig hb (by decide)), pa_head_ne (ne_of_dig hb (by decide))⟩
theorem const_word {k n : Int} {s : List UInt8} {l : List Int} (hs : Snd k n s l) (hk : k ≠ 0 ∧ k ≠ 1) (hneg : ¬ (k = 2 ∧ n < 0)) : CW (showT k n s l) := by
  cases hs with
  | none_ => exact absurd rfl hk.1
  | word h1 h2 => exact absurd rfl hk.2
  | num h1 h2 =>
    show CW (numT n)
    obtain ⟨F, M, -, -, -, e⟩ := num_parts h1 h2
    rw [e, if_neg (by omega), List.nil_append]
    obtain ⟨b, r, e2, hb, hr⟩ := num_word F M
    rw [e2]
    exact cw_dig hb hr
  | text s =>
    show CW (textT s)
    have e : ∃ w, textT s = 39 :: w := ⟨_, rfl⟩
    obtain ⟨w, hw⟩ := e
    refine ⟨fun rest h => len_text s (fun d r e => ?_), ⟨39, w, hw, by decide⟩, by rw [hw]; rfl, by rw [hw]; exact brace_no (by decide), by rw [hw]; exact pa_head_ne (by decide), by rw [hw]; exact pa_head_ne (by decide)⟩
    rcases h d r e with rfl | rfl | rfl <;> decide
  | code h1 h2 =>
    show CW (codeT n)
    rw [code_nat (by omega)]
    exact ⟨fun rest h => len_code (fun x hx => digB_is (dig_dec _ x hx)) (stop_digB h), ⟨35, _, rfl, by decide⟩, by unfold constB; rfl, brace_no (by decide), pa_head_ne (by decide), pa_head_ne (by decide)⟩
  | set h =>
    show CW (setT l)
    have hno : ∀ x : UInt8, ¬ isDig x → x ≠ 35 → x ≠ 44 → x ∉ join (l.map codeT) [44] := fun x h1 h2 h3 => no_join h3 (fun p hp => by
      obtain ⟨c, hc, rfl⟩ := List.mem_map.1 hp
      exact code_no (by have := h c hc; omega) h1 h2)
    have e : setT l = 123 :: (join (l.map codeT) [44] ++ [125]) := rfl
    rw [e]
    refine ⟨fun rest _ => len_set (hno 125 (nd (by decide)) (by decide) (by decide)), ⟨123, _, rfl, by decide⟩, by unfold constB; rfl, fun _ hm => ?_, pa_head_ne (by decide), pa_head_ne (by decide)⟩
    rcases List.mem_cons.1 hm with h1 | h1
    · cases h1
    · rcases List.mem_append.1 h1 with h1 | h1
      · exact hno 32 (nd (by decide)) (by decide) (by decide) h1
      · simp at h1
  | day h1 h2 =>
    show CW (dayT n)
    obtain ⟨y, m, d, e1, e2, e3, -, -, -, -, -⟩ := day_parts h1 h2
    have e : dayT n = 64 :: (padT 4 (Cal.cy n) ++ [45] ++ padT 2 (Cal.cm n) ++ [45] ++ padT 2 (Cal.cd n)) := rfl
    rw [e, e1, e2, e3]
    have hd : ∀ c, isDig c → hyphB c = true := fun c h => by unfold hyphB; rw [digB_is h]; rfl
    refine ⟨fun rest h => len_day (fun x hx => ?_) (stop_hyphB h), ⟨64, _, rfl, by decide⟩, by unfold constB; rfl, brace_no (by decide), pa_head_ne (by decide), pa_head_ne (by decide)⟩
    simp only [List.mem_append, List.mem_singleton] at hx
    rcases hx with (((hx | hx) | hx) | hx) | hx
    · exact hd x (pad_dig 4 y x hx)
    · subst hx; decide
    · exact hd x (pad_dig 2 m x hx)
    · subst hx; decide
    · exact hd x (pad_dig 2 d x hx)
  | bool h1 h2 =>
    show CW (if n = 1 then trueT else falseT)
    split
    · exact ⟨fun rest h => len_name (c := 116) (w := [114, 117, 101]) (by decide) (by decide) (stop_wordB h), ⟨_, _, rfl, by decide⟩, by decide, brace_no (by decide), by decide, by decide⟩
    · exact ⟨fun rest h => len_name (c := 102) (w := [97, 108, 115, 101]) (by decide) (by decide) (stop_wordB h), ⟨_, _, rfl, by decide⟩, by decide, brace_no (by decide), by decide, by decide⟩
theorem ba_empty {s : ByteArray} (h : s.toList = []) : s = ⟨#[]⟩ := by
  rw [ByteArray.toList_eq] at h
  exact ByteArray.ext (Array.toList_inj.1 h)
theorem zero_is {v : Val} (h : zeroVal v = true) : v = zeroX := by
  unfold zeroVal at h
  simp only [Bool.and_eq_true, decide_eq_true_eq] at h
  obtain ⟨k, n, s, l⟩ := v
  simp only at h
  obtain ⟨⟨⟨h1, h2⟩, h3⟩, h4⟩ := h
  have := ba_empty h3
  subst h1 h2 this h4
  rfl
/-- the parts of a right expression -/
structure Shape (e : Ex) : Prop where
  k : 1 ≤ e.k ∧ e.k ≤ 5
  v : e.k ≠ 1 → e.v = zeroX
  o : e.k ≠ 4 → e.k ≠ 5 → e.op = 0 ∧ e.ar = []
  nm : e.k ≠ 2 → e.k ≠ 3 → e.k ≠ 5 → e.nm = ⟨#[]⟩
  c : e.k = 1 → e.v.k ≠ 0 ∧ e.v.k ≠ 1 ∧ checkV e.v = 0
  n : e.k = 2 ∨ e.k = 3 ∨ e.k = 5 → isNameF e.nm.data.toList = true
  op4 : e.k = 4 → 1 ≤ e.op ∧ e.op ≤ 39
  op5 : e.k = 5 → 1 ≤ e.op ∧ e.op ≤ 6
  a4 : e.k = 4 → (arOf e.op).1 ≤ e.ar.length ∧ e.ar.length ≤ (arOf e.op).2
  a5 : e.k = 5 → e.ar.length = 1
theorem shape_of {e : Ex} (h : partF e = 0) : Shape e := by
  have hp := partOk h
  unfold partF partB at h
  by_cases c1 : outB e.k 1 5 = true
  · rw [if_pos c1] at h; exact absurd h (by decide)
  rw [if_neg c1] at h
  by_cases c2 : e.k = 4 ∧ outB e.op 1 39 = true
  · rw [if_pos c2] at h; exact absurd h (by decide)
  rw [if_neg c2] at h
  by_cases c3 : e.k = 5 ∧ outB e.op 1 6 = true
  · rw [if_pos c3] at h; exact absurd h (by decide)
  rw [if_neg c3] at h
  by_cases c4 : extraB e.k e.op e.nm e.v e.ar.length = true
  · rw [if_pos c4] at h; exact absurd h (by decide)
  rw [if_neg c4] at h
  unfold extraB at c4
  have c5 : ¬ ((e.k ≠ 1 ∧ zeroVal e.v = false) ∨ (¬ (e.k = 4 ∨ e.k = 5) ∧ (e.op ≠ 0 ∨ 0 < e.ar.length)) ∨ (¬ (e.k = 2 ∨ e.k = 3 ∨ e.k = 5) ∧ e.nm.toList ≠ [])) := fun c => c4 (by rw [if_pos c])
  refine ⟨hp.k, fun hk => zero_is ?_, fun h4 h5 => ?_, fun h2 h3 h5 => ba_empty ?_, fun hk => ?_, fun hk => ?_, hp.op4, hp.op5, hp.a4, hp.a5⟩
  · cases hz : zeroVal e.v with
    | true => rfl
    | false => exact absurd (.inl ⟨hk, hz⟩) c5
  · by_cases ho : e.op = 0
    · refine ⟨ho, ?_⟩
      cases ha : e.ar with
      | nil => rfl
      | cons a r => exact absurd (.inr (.inl ⟨by omega, .inr (by rw [ha]; simp)⟩)) c5
    · exact absurd (.inr (.inl ⟨by omega, .inl ho⟩)) c5
  · by_cases hn : e.nm.toList = []
    · exact hn
    · exact absurd (.inr (.inr ⟨by omega, hn⟩)) c5
  · rw [if_pos hk] at h
    split at h
    · exact absurd h (by decide)
    · rename_i hv
      exact ⟨by omega, by omega, h⟩
  · rw [if_neg (by omega), if_neg (by omega)] at h
    split at h
    · assumption
    · exact absurd h (by decide)
theorem ex_ext {e : Ex} {k op : Int} {nm : ByteArray} {v : Val} {ar : List Ex} (h1 : e.k = k) (h2 : e.op = op) (h3 : e.nm = nm) (h4 : e.v = v) (h5 : e.ar = ar) : e = .mk k op nm v ar := by
  cases e
  subst h1 h2 h3 h4 h5
  rfl
/-- a name -/
theorem name_parts {w : List UInt8} (h : isNameF w = true) : ∃ c r, w = c :: r ∧ lowB c = true ∧ (∀ x ∈ r, wordB x = true) ∧ reservedL.contains w = false := by
  unfold isNameF at h
  cases w with
  | nil => simp at h
  | cons c r =>
    simp only [Bool.and_eq_true, Bool.not_eq_true', List.all_cons] at h
    exact ⟨c, r, rfl, h.1.1.2, fun x hx => List.all_eq_true.1 h.2.2 x hx, h.1.2⟩
theorem name_not {w x : List UInt8} (h : isNameF w = true) (hx : reservedL.contains x = true) : w ≠ x := by
  obtain ⟨c, r, -, -, -, h4⟩ := name_parts h
  rintro rfl
  rw [h4] at hx
  cases hx
theorem const_low {w : List UInt8} {c : UInt8} {r : List UInt8} (e : w = c :: r) (hc : lowB c = true) (h1 : w ≠ trueT) (h2 : w ≠ falseT) : constB w = false := by
  subst e
  unfold constB
  rw [decide_eq_false h1, decide_eq_false h2]
  have hd : digB c = false := by
    cases hd : digB c with
    | false => rfl
    | true => rw [dig_low hd] at hc; cases hc
  simp only [hd, decide_eq_false (ne_of_low hc (show lowB 64 = false by decide)), decide_eq_false (ne_of_low hc (show lowB 35 = false by decide)), decide_eq_false (ne_of_low hc (show lowB 39 = false by decide)), decide_eq_false (ne_of_low hc (show lowB 123 = false by decide)), Bool.or_false]
theorem nameB_of {w : List UInt8} {c : UInt8} {r : List UInt8} (e : w = c :: r) (hc : lowB c = true) (h : reservedL.contains w = false) : nameB w = true := by
  unfold nameB
  rw [h]
  subst e
  simp [hc]
section
variable {s : List UInt8}
theorem at_ge {i : Nat} {t : Tok} {r : List Tok} (h : wordsOf s i = t :: r) : i ≤ t.at_ := by
  rw [words_eq] at h
  split at h
  · cases h
  · rename_i u hu
    injection h with h1 h2
    subst h1
    exact (tok_in hu).1
/-- a word of letters at a place -/
theorem name_at {w rest : List UInt8} {i : Nat} {c : UInt8} {r : List UInt8} (h : s.drop i = w ++ rest) (e : w = c :: r) (hc : lowB c = true) (hr : ∀ x ∈ r, wordB x = true) (hs : ∀ d r, rest = d :: r → wordB d = false) (hp : Prev s i) : wordsOf s i = ⟨i, w, false⟩ :: wordsOf s (i + w.length) :=
  word_at h e (ne_of_low hc (by decide)) (by rw [e]; exact len_name hc hr hs) (.inl hp)
theorem not_called {w rest : List UInt8} {i : Nat} (h : s.drop (i + w.length) = rest) (hs : Stop rest) : calledB ⟨i, w, false⟩ (wordsOf s (i + w.length)) = false := by
  cases rest with
  | nil => rw [end_at h]; rfl
  | cons d r =>
    rcases hs d r rfl with rfl | rfl | rfl
    · rw [blank_at h]
      cases hw : wordsOf s (i + w.length + 1) with
      | nil => rfl
      | cons t r =>
        have := at_ge hw
        unfold calledB
        simp only [Bool.and_eq_false_imp, decide_eq_true_eq, decide_eq_false_iff_not]
        intro _
        omega
    · rw [shut_at h]; rfl
    · rw [comma_at h]; rfl
theorem rd_word {w : List UInt8} {v : Val} (hw : CW w) (hr : readF (if braceB w then tightT w else w) = some v) : Rd s .primary w (constE v) FT := fun i rest h1 h2 h3 _ => by
  obtain ⟨c, w', e, h32⟩ := hw.head
  rw [word_at (rest := rest) h1 e h32 (hw.len rest h2) (.inl h3), Pz_eq]
  dsimp only [stepP]
  rw [if_neg (by decide), if_pos hw.const, hr]
theorem hw_const {w : List UInt8} (hw : CW w) : HW s w w := fun i rest h1 h2 h3 => by
  obtain ⟨c, w', e, h32⟩ := hw.head
  exact ⟨_, word_at h1 e h32 (hw.len rest h2) (.inl h3)⟩
/-- constants that are no negative numbers -/
theorem cl_const {e : Ex} (hs : Shape e) (hk : e.k = 1) (hneg : ¬ (e.v.k = 2 ∧ e.v.n < 0)) : ClW s (showT e.v.k e.v.n e.v.s.data.toList e.v.l) e 8 := by
  obtain ⟨h0, h1, hc⟩ := hs.c hk
  have hw := const_word (snd_of hc).1 ⟨h0, h1⟩ hneg
  have he : e = constE e.v := ex_ext hk (hs.o (by omega) (by omega)).1 (hs.nm (by omega) (by omega) (by omega)) rfl (hs.o (by omega) (by omega)).2
  have hr : readF (if braceB (showT e.v.k e.v.n e.v.s.data.toList e.v.l) then tightT (showT e.v.k e.v.n e.v.s.data.toList e.v.l) else showT e.v.k e.v.n e.v.s.data.toList e.v.l) = some e.v := by
    split
    · rename_i hb
      rw [tight_id (hw.brace hb), readF_show hc]
    · exact readF_show hc
  obtain ⟨c, w', e2, h32⟩ := hw.head
  have := ClW.of8 (s := s) (e := constE e.v) (rd_word hw hr) (hw_const hw) hw.n45 hw.nn (by rw [e2]; simp)
  rwa [← he] at this
theorem num_next {i : Nat} {w rest : List UInt8} {b : UInt8} {r : List UInt8} (e : w = b :: r) (hb : digB b = true) (l : List Tok) : numNext (⟨i, [45], false⟩ :: ⟨i + 1, w, false⟩ :: l) = true := by
  subst e
  simp [numNext, hb]
theorem snd_num {k n : Int} {t : List UInt8} {l : List Int} (h : Snd k n t l) (hk : k = 2) : -999999999999999 ≤ n ∧ n ≤ 999999999999999 ∧ showT k n t l = numT n := by
  cases h with
  | num h1 h2 => exact ⟨h1, h2, rfl⟩
  | none_ => cases hk
  | word h1 h2 => cases hk
  | text s => cases hk
  | code h1 h2 => cases hk
  | set h => cases hk
  | day h1 h2 => cases hk
  | bool h1 h2 => cases hk
/-- negative numbers -/
theorem cl_neg_const {e : Ex} (hs : Shape e) (hk : e.k = 1) (hneg : e.v.k = 2 ∧ e.v.n < 0) : ClW s (showT e.v.k e.v.n e.v.s.data.toList e.v.l) e 7 := by
  obtain ⟨h0, h1, hc⟩ := hs.c hk
  have he : e = constE e.v := ex_ext hk (hs.o (by omega) (by omega)).1 (hs.nm (by omega) (by omega) (by omega)) rfl (hs.o (by omega) (by omega)).2
  have hsn := (snd_of hc).1
  have hrd := readF_show hc
  have hv : ∃ n : Int, e.v.n = n ∧ n < 0 ∧ -999999999999999 ≤ n ∧ n ≤ 999999999999999 ∧ showT e.v.k e.v.n e.v.s.data.toList e.v.l = numT n := by
    exact ⟨e.v.n, rfl, hneg.2, snd_num hsn hneg.1⟩
  obtain ⟨n, -, hn, hlo, hhi, hsh⟩ := hv
  rw [hsh] at hrd ⊢
  obtain ⟨F, M, -, -, -, e1⟩ := num_parts hlo hhi
  rw [if_pos hn] at e1
  obtain ⟨b, r, e2, hb, hr⟩ := num_word F M
  have e3 : numT n = 45 :: (b :: r) := by rw [e1, List.append_assoc, e2]; rfl
  have hf : HW s (numT n) [45] := fun i rest h1 _ _ => ⟨_, dash_at (rest := (b :: r) ++ rest) (by rw [h1, e3]; rfl)⟩
  refine ClW.of7 ?_ hf (by decide) (by rw [e3]; simp)
  intro i rest h1 h2 h3 _
  have hd : s.drop i = 45 :: ((b :: r) ++ rest) := by rw [h1, e3]; rfl
  have hd1 : s.drop (i + 1) = (b :: r) ++ rest := drop_split (w := [45]) hd
  have hw := cw_dig hb hr
  have e4 : wordsOf s (i + 1) = ⟨i + 1, b :: r, false⟩ :: wordsOf s (i + 1 + (b :: r).length) := word_at hd1 rfl (ne_of_dig hb (by decide)) (hw.len rest h2) (.inl (prev_open hd (by decide)))
  rw [dash_at hd, e4, Pz_eq]
  dsimp only [stepP]
  rw [if_pos (by rw [isW_cons]; rfl), if_pos (num_next (rest := rest) rfl hb _), ← e3, hrd]
  show Res.ok [constE e.v] _ = _
  rw [← he]
  congr 2
  rw [e3]
  simp only [List.length_cons]
  omega
/-- answers -/
theorem cl_name {e : Ex} (hs : Shape e) (hk : e.k = 2) : ClW s e.nm.data.toList e 8 := by
  have hn := hs.n (.inl hk)
  obtain ⟨c, r, e1, hc, hr, hres⟩ := name_parts hn
  have he : e = nameE 2 0 e.nm.data.toList [] := ex_ext hk (hs.o (by omega) (by omega)).1 (by simp) (hs.v (by omega)) (hs.o (by omega) (by omega)).2
  obtain ⟨w, hw⟩ : ∃ w, e.nm.data.toList = w := ⟨_, rfl⟩
  rw [hw] at hn e1 hres he ⊢
  have hf : HW s w w := fun i rest h1 h2 h3 => ⟨_, name_at h1 e1 hc hr (stop_wordB h2) h3⟩
  refine ClW.of8 ?_ hf (fun h => ?_) (name_not hn (by decide)) (by rw [e1]; simp)
  · intro i rest h1 h2 h3 _
    rw [name_at h1 e1 hc hr (stop_wordB h2) h3, Pz_eq]
    dsimp only [stepP]
    rw [if_neg (by decide), if_neg (by rw [const_low e1 hc (name_not hn (by decide)) (name_not hn (by decide))]; decide), if_neg (by rw [e1]; intro h; injection h with h; exact ne_of_low hc (by decide) h), if_neg (by rw [nameB_of e1 hc hres]; decide), if_pos (not_called (drop_split h1) h2), ← he]
  · rw [e1] at h
    injection h with h
    exact ne_of_low hc (by decide) h
end
end Go.Proofs.YtobanldeicclmaaGreatDoor
namespace Go.Proofs.YtobanldeicclmaaGreatDoor
open Vtx Go.Lib Dig
def keepO (a : Option UInt8) (l : List UInt8) : Bool := match a, l with
  | some a, d :: _ => (digB a || decide (a = 35)) && digB d
  | _, _ => false
theorem keep_eq (out l : List UInt8) : keepB out l = keepO out.getLast? l := by
  unfold keepB keepO
  rfl
theorem dropW_le (l : List UInt8) : (l.dropWhile blankB).length ≤ l.length := (List.dropWhile_sublist _).length_le
/-- what is added to what stands already -/
def tqO (a : Option UInt8) : List UInt8 → List UInt8
  | [] => []
  | c :: r => if c ≠ 32 then c :: tqO (some c) r else if keepO a (r.dropWhile blankB) then 32 :: tqO (some 32) (r.dropWhile blankB) else tqO a (r.dropWhile blankB)
termination_by l => l.length
decreasing_by
  all_goals have := dropW_le r
  all_goals simp
  all_goals omega
theorem tq_nil (a : Option UInt8) : tqO a [] = [] := by rw [tqO]
theorem tq_cons (a : Option UInt8) {c : UInt8} (r : List UInt8) (h : c ≠ 32) : tqO a (c :: r) = c :: tqO (some c) r := by rw [tqO, if_pos h]
theorem tq_blank (a : Option UInt8) (r : List UInt8) : tqO a (32 :: r) = if keepO a (r.dropWhile blankB) then 32 :: tqO (some 32) (r.dropWhile blankB) else tqO a (r.dropWhile blankB) := by rw [tqO, if_neg (by simp)]
theorem tight_tq : ∀ (f : Nat) (out l : List UInt8), l.length < f → tightF f out l = out ++ tqO out.getLast? l
  | 0, _, _, h => by omega
  | f + 1, out, [], _ => by rw [tightF, tq_nil, List.append_nil]
  | f + 1, out, c :: r, h => by
    have hl : r.length < f := by simpa using h
    have hd := dropW_le r
    rw [tightF]
    by_cases hc : c = 32
    · subst hc
      rw [if_neg (by simp), tight_tq f _ _ (by omega), keep_eq, tq_blank]
      by_cases hk : keepO out.getLast? (r.dropWhile blankB) = true
      · rw [if_pos hk, if_pos hk]
        simp
      · rw [if_neg hk, if_neg hk]
    · rw [if_pos hc, tight_tq f _ _ hl, tq_cons _ _ hc]
      simp
theorem tight_is (s : List UInt8) : tightT s = tqO none s := by
  unfold tightT
  rw [tight_tq _ _ _ (Nat.lt_succ_self _)]
  rfl
/-- a piece between commas -/
def tp (p : List UInt8) : List UInt8 := tqO (some 44) p
theorem readF_none {x : List UInt8} (h : ∀ v : Val, checkV v = 0 → showT v.k v.n v.s.data.toList v.l ≠ x) : readF x = none := by
  unfold readF
  rw [dif_neg (fun ⟨v, h1, h2⟩ => h v h1 h2)]
end Go.Proofs.YtobanldeicclmaaGreatDoor
namespace Go.Proofs.YtobanldeicclmaaGreatDoor
open Vtx Go.Lib Dig
theorem word_tok {s : List UInt8} {i : Nat} {t : Tok} {r : List Tok} (h : wordsOf s i = t :: r) : tokAt s i = some t ∧ r = wordsOf s (t.at_ + t.tx.length) := by
  rw [words_eq] at h
  split at h
  · cases h
  · rename_i u hu
    injection h with h1 h2
    subst h1
    exact ⟨hu, h2.symm⟩
theorem drop_cons {s : List UInt8} {j : Nat} (h : j < s.length) : s.drop j = s.getD j 0 :: s.drop (j + 1) := by
  rw [List.drop_eq_getElem_cons h, List.getD_eq_getElem?_getD, List.getElem?_eq_getElem h]
  rfl
/-- a word begins with the byte at its place -/
theorem tok_head {s : List UInt8} {i : Nat} {t : Tok} (h : tokAt s i = some t) : ∃ w, t.tx = s.getD t.at_ 0 :: w ∧ s.getD t.at_ 0 ≠ 32 := by
  obtain ⟨h1, h2, h3, h4, h5, h6, h7⟩ := tok_in h
  obtain ⟨m, hm⟩ : ∃ m, wordLen (s.drop t.at_) = m + 1 := ⟨wordLen (s.drop t.at_) - 1, by omega⟩
  rw [drop_cons h2] at h6 hm
  rw [hm, List.take_succ_cons] at h6
  refine ⟨_, h6, ?_⟩
  -- the byte behind the blanks is none
  have key : ∀ l : List UInt8, ∀ k, k = spanP blankB l → k < l.length → l.getD k 0 ≠ 32 := by
    intro l
    induction l with
    | nil => intro k _ h; simp at h
    | cons c r ih =>
      intro k hk hl
      rw [spanP] at hk
      by_cases hc : c = 32
      · subst hc
        rw [show blankB 32 = true from rfl, if_pos rfl] at hk
        subst hk
        have := ih _ rfl (by simpa using hl)
        simpa [List.getD_eq_getElem?_getD] using this
      · rw [not_blank hc, if_neg (by decide)] at hk
        subst hk
        simpa [List.getD_eq_getElem?_getD] using hc
  have := key (s.drop i) _ rfl (by rw [List.length_drop]; omega)
  rw [List.getD_eq_getElem?_getD, List.getElem?_drop, ← h5] at this
  rw [List.getD_eq_getElem?_getD]
  exact this
/-- what touches the word ahead of it -/
theorem tok_touch {s : List UInt8} {i : Nat} {t : Tok} (h : tokAt s i = some t) : t.touch = (decide (t.at_ = i) && decide (0 < i) && wordB (s.getD (i - 1) 0) && wordB (s.getD i 0)) := by
  unfold tokAt at h
  split at h
  · injection h with h
    rw [← h]
    dsimp only
    congr 3
    exact decide_eq_decide.2 (by omega)
  · cases h
/-- a word that begins with no letter touches nothing -/
theorem tok_free {s : List UInt8} {i : Nat} {t : Tok} (h : tokAt s i = some t) {c : UInt8} {w : List UInt8} (e : t.tx = c :: w) (hc : wordB c = false) : t.touch = false := by
  obtain ⟨w', hw, -⟩ := tok_head h
  rw [tok_touch h]
  by_cases hi : t.at_ = i
  · rw [e] at hw
    injection hw with hw _
    rw [← hi, ← hw, hc]
    simp
  · rw [decide_eq_false hi]; rfl
theorem tok_none {s : List UInt8} {i : Nat} (h : tokAt s i = none) : wordsOf s i = [] := by rw [words_eq, h]
/-- what stands directly at a place -/
theorem tok_at {s : List UInt8} {i : Nat} (h : i < s.length) (h32 : s.getD i 0 ≠ 32) : ∃ u, tokAt s i = some u ∧ u.at_ = i := by
  have hs : spanP blankB (s.drop i) = 0 := by rw [drop_cons h, spanP, not_blank h32]; rfl
  unfold tokAt
  rw [hs, Nat.add_zero, if_pos h]
  exact ⟨_, rfl, rfl⟩
/-- a number behind a sign -/
theorem num_iff {s : List UInt8} {i : Nat} {t : Tok} (h : tokAt s i = some t) (e : t.tx.length = 1) : numNext (t :: wordsOf s (t.at_ + t.tx.length)) = (decide (t.at_ + 1 < s.length) && digB (s.getD (t.at_ + 1) 0)) := by
  rw [e]
  by_cases hl : t.at_ + 1 < s.length
  · rw [decide_eq_true hl, Bool.true_and]
    cases hu : tokAt s (t.at_ + 1) with
    | none =>
      rw [tok_none hu]
      by_cases h32 : s.getD (t.at_ + 1) 0 = 32
      · rw [h32]; rfl
      · obtain ⟨u, hu2, -⟩ := tok_at hl h32
        rw [hu] at hu2; cases hu2
    | some u =>
      rw [words_eq, hu]
      obtain ⟨w, hw, h32⟩ := tok_head hu
      have hge := (tok_in hu).1
      by_cases ha : u.at_ = t.at_ + 1
      · show (decide (u.at_ = t.at_ + 1) && (match u.tx with | c :: _ => digB c | [] => false)) = _
        rw [decide_eq_true ha, hw, ha]; rfl
      · show (decide (u.at_ = t.at_ + 1) && (match u.tx with | c :: _ => digB c | [] => false)) = _
        rw [decide_eq_false ha, Bool.false_and]
        by_cases hb : s.getD (t.at_ + 1) 0 = 32
        · rw [hb]; rfl
        · obtain ⟨u2, hu2, h2⟩ := tok_at hl hb
          rw [hu] at hu2
          injection hu2 with hu2
          rw [hu2] at ha
          exact absurd h2 ha
  · rw [decide_eq_false hl, Bool.false_and]
    have : tokAt s (t.at_ + 1) = none := by
      cases hu : tokAt s (t.at_ + 1) with
      | none => rfl
      | some u =>
        have := tok_in hu
        omega
    rw [tok_none this]; rfl
/-- a bracket behind a word -/
theorem called_iff {s : List UInt8} {t : Tok} {j : Nat} (hj : j = t.at_ + t.tx.length) : calledB t (wordsOf s j) = (decide (j < s.length) && decide (s.getD j 0 = 40)) := by
  by_cases hl : j < s.length
  · rw [decide_eq_true hl, Bool.true_and]
    cases hu : tokAt s j with
    | none =>
      rw [tok_none hu]
      by_cases h32 : s.getD j 0 = 32
      · rw [h32]; rfl
      · obtain ⟨u, hu2, -⟩ := tok_at hl h32
        rw [hu] at hu2; cases hu2
    | some u =>
      rw [words_eq, hu]
      obtain ⟨w, hw, h32⟩ := tok_head hu
      show (decide (u.tx = [40]) && decide (u.at_ = t.at_ + t.tx.length)) = _
      by_cases ha : u.at_ = j
      · rw [decide_eq_true (ha.trans hj), Bool.and_true]
        refine decide_eq_decide.2 ?_
        rw [ha] at hw
        constructor
        · intro e
          rw [hw] at e
          injection e
        · intro e
          have h6 := (tok_in hu).2.2.2.2.2.1
          rw [ha, drop_cons hl, e] at h6
          have h1 : wordLen (40 :: s.drop (j + 1)) = 1 := len_one (c := 40) (by decide) (by decide) (by decide) (two_no (by decide) _)
          rw [h1] at h6
          exact h6
      · rw [show decide (u.at_ = t.at_ + t.tx.length) = false from decide_eq_false (fun e => ha (e.trans hj.symm)), Bool.and_false]
        by_cases hb : s.getD j 0 = 32
        · rw [hb]; rfl
        · obtain ⟨u2, hu2, h2⟩ := tok_at hl hb
          rw [hu] at hu2
          injection hu2 with hu2
          rw [hu2] at ha
          exact absurd h2 ha
  · rw [decide_eq_false hl, Bool.false_and]
    have : tokAt s j = none := by
      cases hu : tokAt s j with
      | none => rfl
      | some u =>
        have := tok_in hu
        omega
    rw [tok_none this]; rfl
end Go.Proofs.YtobanldeicclmaaGreatDoor
namespace Go.Proofs.YtobanldeicclmaaGreatDoor
open Go.RowKit Vtx
theorem isDigit_any (c : UInt8) (w : World) :
    Calls Tryz.prog 80 #[.int .u8 (c.toNat : Nat)] w fun e w' => e = .returned (.bool (digB c)) ∧ w = w' := by
  go_enter Tryz.func80, Tryz.ntmps80
  go_wp2
  all_goals (go_ret; exact ⟨ret_bool (by unfold digB; rw [Bool.eq_iff_iff]; simp; try omega), rfl⟩)
theorem toNat_eq (c : UInt8) (n : Nat) (hn : n < 256) : (c = UInt8.ofNat n) ↔ c.toNat = n := by
  constructor
  · rintro rfl; simp; omega
  · intro h; apply UInt8.toNat_inj.1; rw [h]; simp; omega
theorem stopB_any (c : UInt8) (w : World) :
    Calls Tryz.prog 81 #[.int .u8 (c.toNat : Nat)] w fun e w' => e = .returned (.bool (stopB c)) ∧ w = w' := by
  obtain ⟨b, hb⟩ : ∃ b, digB c = b := ⟨_, rfl⟩
  have HP := Lib.hid (show stopB c = (b || decide (c.toNat = 46)) by unfold stopB; rw [hb, show decide (c = 46) = decide (c.toNat = 46) from decide_eq_decide.2 (toNat_eq c 46 (by decide))])
  have H := Lib.hid (show ∀ w', Calls Tryz.prog 80 #[.int .u8 (c.toNat : Nat)] w' fun e w'' => e = .returned (.bool b) ∧ w' = w'' from fun w' => by
    have h := isDigit_any c w'
    rwa [hb] at h)
  clear hb
  cases b
  · go_enter Tryz.func81, Tryz.ntmps81
    go_wp2_with fail
    refine (H.out _).mono ?_
    rintro e w1 ⟨rfl, rfl⟩
    go_wp2_with fail
    all_goals (go_ret; exact ⟨ret_bool (by rw [HP.out]; rw [Bool.eq_iff_iff]; simp; try omega), rfl⟩)
  · go_enter Tryz.func81, Tryz.ntmps81
    go_wp2_with fail
    refine (H.out _).mono ?_
    rintro e w1 ⟨rfl, rfl⟩
    go_wp2_with fail
    all_goals (go_ret; exact ⟨ret_bool (by rw [HP.out]; rfl), rfl⟩)
theorem hyphB_any (c : UInt8) (w : World) :
    Calls Tryz.prog 82 #[.int .u8 (c.toNat : Nat)] w fun e w' => e = .returned (.bool (hyphB c)) ∧ w = w' := by
  obtain ⟨b, hb⟩ : ∃ b, digB c = b := ⟨_, rfl⟩
  have HP := Lib.hid (show hyphB c = (b || decide (c.toNat = 45)) by unfold hyphB; rw [hb, show decide (c = 45) = decide (c.toNat = 45) from decide_eq_decide.2 (toNat_eq c 45 (by decide))])
  have H := Lib.hid (show ∀ w', Calls Tryz.prog 80 #[.int .u8 (c.toNat : Nat)] w' fun e w'' => e = .returned (.bool b) ∧ w' = w'' from fun w' => by
    have h := isDigit_any c w'
    rwa [hb] at h)
  clear hb
  cases b
  · go_enter Tryz.func82, Tryz.ntmps82
    go_wp2_with fail
    refine (H.out _).mono ?_
    rintro e w1 ⟨rfl, rfl⟩
    go_wp2_with fail
    all_goals (go_ret; exact ⟨ret_bool (by rw [HP.out]; rw [Bool.eq_iff_iff]; simp; try omega), rfl⟩)
  · go_enter Tryz.func82, Tryz.ntmps82
    go_wp2_with fail
    refine (H.out _).mono ?_
    rintro e w1 ⟨rfl, rfl⟩
    go_wp2_with fail
    all_goals (go_ret; exact ⟨ret_bool (by rw [HP.out]; rfl), rfl⟩)
theorem drop_ba {s : ByteArray} {i : Nat} (h : i < s.size) : s.data.toList.drop i = s[i] :: s.data.toList.drop (i + 1) := by
  have hl : i < s.data.toList.length := by rw [Array.length_toList]; exact h
  rw [List.drop_eq_getElem_cons hl]
  rfl
theorem drop_end {s : ByteArray} {i : Nat} (h : s.size ≤ i) : s.data.toList.drop i = [] := List.drop_eq_nil_of_le (by rw [Array.length_toList]; exact h)
theorem span_step {s : ByteArray} {p : UInt8 → Bool} {i k : Nat} (h : i < s.size) (hp : p s[i] = true) (hr : k = i + spanP p (s.data.toList.drop i)) : k = i + 1 + spanP p (s.data.toList.drop (i + 1)) := by
  rw [hr, drop_ba h, spanP, hp, if_pos rfl]; omega
theorem span_last {s : ByteArray} {p : UInt8 → Bool} {i k : Nat} (h : i < s.size) (hp : p s[i] = false) (hr : k = i + spanP p (s.data.toList.drop i)) : k = i := by
  rw [hr, drop_ba h, spanP, hp, if_neg (by decide)]; rfl
theorem span_out {s : ByteArray} {p : UInt8 → Bool} {i k : Nat} (h : ¬ i < s.size) (hr : k = i + spanP p (s.data.toList.drop i)) : k = i := by
  rw [hr, drop_end (by omega)]; rfl
set_option maxHeartbeats 1000000 in
theorem span_word (g : Nat) (s : ByteArray) (k : Nat) (w : World) (hc : w.cell? ⟨g, 0, none⟩ = some (.string s)) (hk : k ≤ s.size) (hs : s.size ≤ 4000) :
    Calls Tryz.prog 79 #[.pointer (some ⟨g, 0, none⟩), .int .i64 (k : Nat), .func (.func 52) #[] #[]] w fun e w' => e = .returned (.int .i64 ((k + spanP wordB (s.data.toList.drop k) : Nat) : Int)) ∧ w = w' := by
  obtain ⟨K, hK⟩ : ∃ K, k + spanP wordB (s.data.toList.drop k) = K := ⟨_, rfl⟩
  have HK := Lib.hid hK.symm
  rw [hK]
  clear hK
  go_enter Tryz.func79, Tryz.ntmps79
  go_wp2_with fail
  go_loop [1] (fun i => ∃ n : Nat, n ≤ s.size ∧ i = .int .i64 n ∧ Hid (K = n + spanP wordB (s.data.toList.drop n))) (fun i => s.size - (intOf i).toNat)
  case atStart => exact ⟨k, hk, rfl, HK⟩
  case round =>
    obtain ⟨n, hn, rfl, HR⟩ := hrel
    by_cases hlt : n < s.size
    · obtain ⟨b, hb⟩ : ∃ b, wordB s[n] = b := ⟨_, rfl⟩
      have HB := Lib.hid hb
      have HLT := Lib.hid hlt
      have HW := Lib.hid (show Calls Tryz.prog 52 #[.int .u8 (s[n].toNat : Nat)] w fun e w'' => e = .returned (.bool b) ∧ w = w'' from by
        exact (isWordByte_any s[n] w).mono fun e w'' ⟨he, hw⟩ => ⟨he.trans (congrArg (fun x => Ending.returned (.bool x)) hb), hw⟩)
      clear hb
      cases b
      · have HG := Lib.hid (span_last HLT.out HB.out HR.out)
        go_wp2_with (go_at_call 52; refine HW.out.mono ?_; rintro e w1 ⟨rfl, rfl⟩)
        go_ret
        exact ⟨by rw [HG.out]; try rfl, rfl⟩
      · have HG := Lib.hid (span_step HLT.out HB.out HR.out)
        go_wp2_with (go_at_call 52; refine HW.out.mono ?_; rintro e w1 ⟨rfl, rfl⟩)
        go_round
        case rel => exact ⟨n + 1, HLT.out, by go_num, HG⟩
        case measure =>
          have := HLT.out
          simp [intOf]
          omega
    · have HG := Lib.hid (span_out hlt HR.out)
      go_wp2_with fail
      go_ret
      exact ⟨by rw [HG.out]; try rfl, rfl⟩
set_option maxHeartbeats 1000000 in
theorem span_stop_ (g : Nat) (s : ByteArray) (k : Nat) (w : World) (hc : w.cell? ⟨g, 0, none⟩ = some (.string s)) (hk : k ≤ s.size) (hs : s.size ≤ 4000) :
    Calls Tryz.prog 79 #[.pointer (some ⟨g, 0, none⟩), .int .i64 (k : Nat), .func (.func 81) #[] #[]] w fun e w' => e = .returned (.int .i64 ((k + spanP stopB (s.data.toList.drop k) : Nat) : Int)) ∧ w = w' := by
  obtain ⟨K, hK⟩ : ∃ K, k + spanP stopB (s.data.toList.drop k) = K := ⟨_, rfl⟩
  have HK := Lib.hid hK.symm
  rw [hK]
  clear hK
  go_enter Tryz.func79, Tryz.ntmps79
  go_wp2_with fail
  go_loop [1] (fun i => ∃ n : Nat, n ≤ s.size ∧ i = .int .i64 n ∧ Hid (K = n + spanP stopB (s.data.toList.drop n))) (fun i => s.size - (intOf i).toNat)
  case atStart => exact ⟨k, hk, rfl, HK⟩
  case round =>
    obtain ⟨n, hn, rfl, HR⟩ := hrel
    by_cases hlt : n < s.size
    · obtain ⟨b, hb⟩ : ∃ b, stopB s[n] = b := ⟨_, rfl⟩
      have HB := Lib.hid hb
      have HLT := Lib.hid hlt
      have HW := Lib.hid (show Calls Tryz.prog 81 #[.int .u8 (s[n].toNat : Nat)] w fun e w'' => e = .returned (.bool b) ∧ w = w'' from by
        exact (stopB_any s[n] w).mono fun e w'' ⟨he, hw⟩ => ⟨he.trans (congrArg (fun x => Ending.returned (.bool x)) hb), hw⟩)
      clear hb
      cases b
      · have HG := Lib.hid (span_last HLT.out HB.out HR.out)
        go_wp2_with (go_at_call 81; refine HW.out.mono ?_; rintro e w1 ⟨rfl, rfl⟩)
        go_ret
        exact ⟨by rw [HG.out]; try rfl, rfl⟩
      · have HG := Lib.hid (span_step HLT.out HB.out HR.out)
        go_wp2_with (go_at_call 81; refine HW.out.mono ?_; rintro e w1 ⟨rfl, rfl⟩)
        go_round
        case rel => exact ⟨n + 1, HLT.out, by go_num, HG⟩
        case measure =>
          have := HLT.out
          simp [intOf]
          omega
    · have HG := Lib.hid (span_out hlt HR.out)
      go_wp2_with fail
      go_ret
      exact ⟨by rw [HG.out]; try rfl, rfl⟩
set_option maxHeartbeats 1000000 in
theorem span_hyph (g : Nat) (s : ByteArray) (k : Nat) (w : World) (hc : w.cell? ⟨g, 0, none⟩ = some (.string s)) (hk : k ≤ s.size) (hs : s.size ≤ 4000) :
    Calls Tryz.prog 79 #[.pointer (some ⟨g, 0, none⟩), .int .i64 (k : Nat), .func (.func 82) #[] #[]] w fun e w' => e = .returned (.int .i64 ((k + spanP hyphB (s.data.toList.drop k) : Nat) : Int)) ∧ w = w' := by
  obtain ⟨K, hK⟩ : ∃ K, k + spanP hyphB (s.data.toList.drop k) = K := ⟨_, rfl⟩
  have HK := Lib.hid hK.symm
  rw [hK]
  clear hK
  go_enter Tryz.func79, Tryz.ntmps79
  go_wp2_with fail
  go_loop [1] (fun i => ∃ n : Nat, n ≤ s.size ∧ i = .int .i64 n ∧ Hid (K = n + spanP hyphB (s.data.toList.drop n))) (fun i => s.size - (intOf i).toNat)
  case atStart => exact ⟨k, hk, rfl, HK⟩
  case round =>
    obtain ⟨n, hn, rfl, HR⟩ := hrel
    by_cases hlt : n < s.size
    · obtain ⟨b, hb⟩ : ∃ b, hyphB s[n] = b := ⟨_, rfl⟩
      have HB := Lib.hid hb
      have HLT := Lib.hid hlt
      have HW := Lib.hid (show Calls Tryz.prog 82 #[.int .u8 (s[n].toNat : Nat)] w fun e w'' => e = .returned (.bool b) ∧ w = w'' from by
        exact (hyphB_any s[n] w).mono fun e w'' ⟨he, hw⟩ => ⟨he.trans (congrArg (fun x => Ending.returned (.bool x)) hb), hw⟩)
      clear hb
      cases b
      · have HG := Lib.hid (span_last HLT.out HB.out HR.out)
        go_wp2_with (go_at_call 82; refine HW.out.mono ?_; rintro e w1 ⟨rfl, rfl⟩)
        go_ret
        exact ⟨by rw [HG.out]; try rfl, rfl⟩
      · have HG := Lib.hid (span_step HLT.out HB.out HR.out)
        go_wp2_with (go_at_call 82; refine HW.out.mono ?_; rintro e w1 ⟨rfl, rfl⟩)
        go_round
        case rel => exact ⟨n + 1, HLT.out, by go_num, HG⟩
        case measure =>
          have := HLT.out
          simp [intOf]
          omega
    · have HG := Lib.hid (span_out hlt HR.out)
      go_wp2_with fail
      go_ret
      exact ⟨by rw [HG.out]; try rfl, rfl⟩
set_option maxHeartbeats 1000000 in
theorem span_dig (g : Nat) (s : ByteArray) (k : Nat) (w : World) (hc : w.cell? ⟨g, 0, none⟩ = some (.string s)) (hk : k ≤ s.size) (hs : s.size ≤ 4000) :
    Calls Tryz.prog 79 #[.pointer (some ⟨g, 0, none⟩), .int .i64 (k : Nat), .func (.func 80) #[] #[]] w fun e w' => e = .returned (.int .i64 ((k + spanP digB (s.data.toList.drop k) : Nat) : Int)) ∧ w = w' := by
  obtain ⟨K, hK⟩ : ∃ K, k + spanP digB (s.data.toList.drop k) = K := ⟨_, rfl⟩
  have HK := Lib.hid hK.symm
  rw [hK]
  clear hK
  go_enter Tryz.func79, Tryz.ntmps79
  go_wp2_with fail
  go_loop [1] (fun i => ∃ n : Nat, n ≤ s.size ∧ i = .int .i64 n ∧ Hid (K = n + spanP digB (s.data.toList.drop n))) (fun i => s.size - (intOf i).toNat)
  case atStart => exact ⟨k, hk, rfl, HK⟩
  case round =>
    obtain ⟨n, hn, rfl, HR⟩ := hrel
    by_cases hlt : n < s.size
    · obtain ⟨b, hb⟩ : ∃ b, digB s[n] = b := ⟨_, rfl⟩
      have HB := Lib.hid hb
      have HLT := Lib.hid hlt
      have HW := Lib.hid (show Calls Tryz.prog 80 #[.int .u8 (s[n].toNat : Nat)] w fun e w'' => e = .returned (.bool b) ∧ w = w'' from by
        exact (isDigit_any s[n] w).mono fun e w'' ⟨he, hw⟩ => ⟨he.trans (congrArg (fun x => Ending.returned (.bool x)) hb), hw⟩)
      clear hb
      cases b
      · have HG := Lib.hid (span_last HLT.out HB.out HR.out)
        go_wp2_with (go_at_call 80; refine HW.out.mono ?_; rintro e w1 ⟨rfl, rfl⟩)
        go_ret
        exact ⟨by rw [HG.out]; try rfl, rfl⟩
      · have HG := Lib.hid (span_step HLT.out HB.out HR.out)
        go_wp2_with (go_at_call 80; refine HW.out.mono ?_; rintro e w1 ⟨rfl, rfl⟩)
        go_round
        case rel => exact ⟨n + 1, HLT.out, by go_num, HG⟩
        case measure =>
          have := HLT.out
          simp [intOf]
          omega
    · have HG := Lib.hid (span_out hlt HR.out)
      go_wp2_with fail
      go_ret
      exact ⟨by rw [HG.out]; try rfl, rfl⟩
theorem quot_two {s : ByteArray} {i k : Nat} (h : i + 1 < s.size) (h1 : s[i] = 39) (h2 : s[i + 1] = 39) (hr : k = i + quotedN (s.data.toList.drop i)) : k = i + 2 + quotedN (s.data.toList.drop (i + 2)) := by
  have e : quotedN (s[i] :: s[i + 1] :: s.data.toList.drop (i + 1 + 1)) = quotedN (s.data.toList.drop (i + 1 + 1)) + 2 := by rw [quotedN, if_neg (by simp [h1]), if_pos h2]
  rw [hr, drop_ba (i := i) (by omega), drop_ba h, e, show i + 1 + 1 = i + 2 from rfl]; omega
theorem quot_one {s : ByteArray} {i k : Nat} (h : i + 1 < s.size) (h1 : s[i] = 39) (h2 : s[i + 1] ≠ 39) (hr : k = i + quotedN (s.data.toList.drop i)) : k = i + 1 := by
  have e : quotedN (s[i] :: s[i + 1] :: s.data.toList.drop (i + 1 + 1)) = 1 := by rw [quotedN, if_neg (by simp [h1]), if_neg h2]
  rw [hr, drop_ba (i := i) (by omega), drop_ba h, e]
theorem quot_end {s : ByteArray} {i k : Nat} (h : i < s.size) (h2 : ¬ i + 1 < s.size) (hr : k = i + quotedN (s.data.toList.drop i)) : k = i + 1 := by
  rw [hr, drop_ba h, drop_end (i := i + 1) (by omega)]; rfl
theorem quot_step {s : ByteArray} {i k : Nat} (h : i < s.size) (h1 : s[i] ≠ 39) (hr : k = i + quotedN (s.data.toList.drop i)) : k = i + 1 + quotedN (s.data.toList.drop (i + 1)) := by
  by_cases h2 : i + 1 < s.size
  · have e : quotedN (s[i] :: s[i + 1] :: s.data.toList.drop (i + 1 + 1)) = quotedN (s[i + 1] :: s.data.toList.drop (i + 1 + 1)) + 1 := by rw [quotedN, if_pos h1]
    rw [hr, drop_ba h, drop_ba h2, e]; omega
  · rw [hr, drop_ba h, drop_end (i := i + 1) (by omega)]; rfl
theorem quot_out {s : ByteArray} {i k : Nat} (h : ¬ i < s.size) (hr : k = i + quotedN (s.data.toList.drop i)) : k = i := by
  rw [hr, drop_end (by omega)]; rfl
set_option maxHeartbeats 1000000 in
theorem quoted_any (g : Nat) (s : ByteArray) (k : Nat) (w : World) (hc : w.cell? ⟨g, 0, none⟩ = some (.string s)) (hk : k < s.size) (hs : s.size ≤ 4000) :
    Calls Tryz.prog 83 #[.pointer (some ⟨g, 0, none⟩), .int .i64 (k : Nat)] w fun e w' => e = .returned (.int .i64 ((k + 1 + quotedN (s.data.toList.drop (k + 1)) : Nat) : Int)) ∧ w = w' := by
  obtain ⟨K, hK⟩ : ∃ K, k + 1 + quotedN (s.data.toList.drop (k + 1)) = K := ⟨_, rfl⟩
  have HK := Lib.hid hK.symm
  rw [hK]
  clear hK
  go_enter Tryz.func83, Tryz.ntmps83
  go_wp2_with fail
  go_loop [5] (fun i => ∃ n : Nat, n ≤ s.size ∧ i = .int .i64 n ∧ Hid (K = n + quotedN (s.data.toList.drop n))) (fun i => s.size - (intOf i).toNat)
  case atStart => exact ⟨k + 1, hk, by go_num, HK⟩
  case round =>
    obtain ⟨n, hn, rfl, HR⟩ := hrel
    by_cases hlt : n < s.size
    · have HLT := Lib.hid hlt
      by_cases h39 : s[n].toNat = 39
      · have h39' : s[n] = 39 := (toNat_eq s[n] 39 (by decide)).2 h39
        by_cases hl2 : n + 1 < s.size
        · have hl2i : ((n : Int) + 1) < (s.size : Int) := by omega
          by_cases h2 : s[n + 1].toNat = 39
          · have HG := Lib.hid (quot_two hl2 h39' ((toNat_eq s[n + 1] 39 (by decide)).2 h2) HR.out)
            have HL2 := Lib.hid hl2
            have b1 : ((s[n].toNat : Int) != 39) = false := by simp; omega
            have b2 : ((s[n + 1].toNat : Int) == 39) = true := by simp; omega
            clear h39 h39' h2
            go_wp2_with fail
            go_round
            case rel => exact ⟨n + 2, HL2.out, by go_num, HG⟩
            case measure =>
              have := HL2.out
              simp [intOf]
              omega
          · have HG := Lib.hid (quot_one hl2 h39' (fun e => h2 ((toNat_eq s[n + 1] 39 (by decide)).1 e)) HR.out)
            have b1 : ((s[n].toNat : Int) != 39) = false := by simp; omega
            have b2 : ((s[n + 1].toNat : Int) == 39) = false := by simp; omega
            clear h39 h39' h2
            go_wp2_with fail
            go_ret
            exact ⟨by rw [HG.out]; try rfl, rfl⟩
        · have HG := Lib.hid (quot_end hlt hl2 HR.out)
          have b1 : ((s[n].toNat : Int) != 39) = false := by simp; omega
          clear h39 h39'
          go_wp2_with fail
          go_ret
          exact ⟨by rw [HG.out]; try rfl, rfl⟩
      · have HG := Lib.hid (quot_step hlt (fun e => h39 ((toNat_eq s[n] 39 (by decide)).1 e)) HR.out)
        have b1 : ((s[n].toNat : Int) != 39) = true := by simp; omega
        clear h39
        go_wp2_with fail
        go_round
        case rel => exact ⟨n + 1, HLT.out, by go_num, HG⟩
        case measure =>
          have := HLT.out
          simp [intOf]
          omega
    · have HG := Lib.hid (quot_out hlt HR.out)
      have hke : n = s.size := by omega
      go_wp2_with fail
      go_ret
      exact ⟨by rw [HG.out, hke]; try rfl, rfl⟩
end Go.Proofs.YtobanldeicclmaaGreatDoor
