/- The walks of padded and showNumber. · The walks of strings.Cut and Split in this family's words; readNumber. · The walk of showSet. · The walks of the functions of days, in both packages. Conditions: years from 0 to 10000 (leap), 1600 to 2400 (number). · The walks of 'civil', 'Civil' and 'Weekday' of both packages. Condition: 'civil' for days in the range. · The walks of 'dayValue', 'Date' and 'Months' of both packages: a Day, or Missing. No condition. · The walks of show and Show: a value's text. · The walks of Show and readSet. · How long the text of an expression is. The plain mathematics. -/
import Derived.Test.YtcmccjcelchlhaaGreatDoorF7
import Derived.Outline
import Derived.Test.YtcmccjcelchlhaaGreatDoorF1
import Derived.Test.YtcmccjcelchlhaaGreatDoorF2
import Derived.Lib.ItoaLen
namespace Go.Proofs.YtcmccjcelchlhaaGreatDoor
open Go.RowKit Dig Vtx

def strLen (v : Value) : Nat := match v with
  | .string t => t.size
  | _ => 0
set_option maxHeartbeats 1000000 in
theorem padded_any (n : Int) (W : Nat) (w : World) (h0 : 0 ≤ n) (h1 : n ≤ 9223372036854775807) (hW : W ≤ 20) (htab : Tab w) :
    Calls Tryz.prog 97 #[.int .i64 n, .int .i64 (W : Nat)] w fun e w' => (∃ t : ByteArray, e = .returned (.string t) ∧ t.data.toList = padT W n) ∧ Below w.heap.size w w' := by
  have HT := Lib.hid htab
  clear htab
  go_enter Tryz.func97, Tryz.ntmps97
  go_wp2_with fail
  refine (itoa_any n w (by omega) h1 HT.out).mono ?_
  rintro e w1 ⟨⟨t0, rfl, ht0⟩, hb1⟩
  obtain ⟨L, hL⟩ : ∃ L, (Lib.itoa n).length = L := ⟨_, rfl⟩
  have HT0 := Lib.hid ht0
  have hLb : L ≤ 20 := by
    obtain ⟨m, rfl⟩ : ∃ m : Nat, n = m := ⟨n.toNat, by omega⟩
    rw [itoa_nat] at hL
    have := dec_len 18 m (by omega)
    omega
  have HL := Lib.hid hL
  clear ht0 hL
  go_wp2_with (fail)
  go_loop [5] (fun s => ∃ (t : ByteArray) (k : Nat), s = .string t ∧ Hid (t.data.toList = zeros k ++ Lib.itoa n) ∧ k ≤ W - L) (fun s => W - strLen s)
  case atStart => exact ⟨t0, 0, rfl, Lib.hid HT0.out, Nat.zero_le _⟩
  case round =>
    obtain ⟨t, k, rfl, HTT, hk⟩ := hrel
    have hsz : t.size = k + L := by
      have : t.data.toList.length = k + L := by rw [HTT.out]; simp [zeros, HL.out]
      exact this
    have hs1 : t.size ≤ k + L := by omega
    have hs2 : k + L ≤ t.size := by omega
    clear hsz
    by_cases hlt : t.size < W
    · go_wp2_with (fail)
      go_round
      case rel =>
        refine ⟨⟨#[48]⟩ ++ t, k + 1, rfl, Lib.hid ?_, by omega⟩
        rw [toList_app, HTT.out, show zeros (k + 1) = 48 :: zeros k from rfl]
        rfl
      case measure =>
        have : (⟨#[48]⟩ ++ t : ByteArray).size = t.size + 1 := by rw [ByteArray.size_append]; show 1 + t.size = _; omega
        simp [strLen, this]
        omega
    · have HTP := Lib.hid (show t.data.toList = padT W n by
        rw [HTT.out]
        unfold padT
        rw [HL.out, show k = W - L by omega])
      clear HTT HT0 HL
      go_wp2
      go_ret
      exact ⟨⟨_, rfl, HTP.out⟩, hb1⟩
theorem trim_right0 (t : ByteArray) (w : World) (h : t.size ≤ 100) :
    Calls Tryz.prog 131 #[.string t, .string ⟨#[48]⟩] w fun e w' => (∃ u : ByteArray, e = .returned (.string u) ∧ u.data.toList = Lib.trimRightB t.data.toList 48) ∧ w = w' :=
  (Tryz.strings_TrimRight_one t 48 (by decide) w (by omega)).mono fun _ _ ⟨he, hw⟩ => ⟨⟨_, he, rfl⟩, hw.symm⟩
set_option maxHeartbeats 1000000 in
theorem showNumber_any (n : Int) (w : World) (h1 : -999999999999999 ≤ n) (h2 : n ≤ 999999999999999) (htab : Tab w) :
    Calls Tryz.prog 93 #[.int .i64 n] w fun e w' => (∃ t : ByteArray, e = .returned (.string t) ∧ t.data.toList = numT n) ∧ Below w.heap.size w w' := by
  have HT := Lib.hid htab
  clear htab
  obtain ⟨a, ha⟩ : ∃ a, absI n = a := ⟨_, rfl⟩
  have hab : 0 ≤ a ∧ a ≤ 999999999999999 := by rw [← ha]; unfold absI; split <;> omega
  obtain ⟨ha0, ha1⟩ := hab
  obtain ⟨F, hF⟩ : ∃ F, a / 10000 = F := ⟨_, rfl⟩
  obtain ⟨M, hM⟩ : ∃ M, a % 10000 = M := ⟨_, rfl⟩
  have hF0 : 0 ≤ F := by omega
  have hF1 : F ≤ 99999999999 := by omega
  have hM0 : 0 ≤ M := by omega
  have hM1 : M < 10000 := by omega
  have HN := Lib.hid (show numT n = (if n < 0 then [45] else []) ++ Lib.itoa F ++ (if fracT M = [] then [] else 46 :: fracT M) by unfold numT; rw [ha, hF, hM])
  have HI := Lib.hid (show (Lib.itoa F).length ≤ 11 by
    obtain ⟨m, rfl⟩ : ∃ m : Nat, F = m := ⟨F.toNat, by omega⟩
    rw [itoa_nat]
    exact dec_len 10 m (by omega))
  have HFR := Lib.hid (show (padT 4 M).length = 4 ∧ (fracT M).length ≤ 4 by
    obtain ⟨m, rfl⟩ : ∃ m : Nat, M = m := ⟨M.toNat, by omega⟩
    exact ⟨pad_len (dec_len 3 m (by omega)), (frac_pad (by omega)).2⟩)
  have HA := Lib.hid ha
  have HFD := Lib.hid hF
  have HMD := Lib.hid hM
  clear ha hF hM
  go_enter Tryz.func93, Tryz.ntmps93
  go_upto_if 7 with (fail)
  go_cut [0, 3] (fun v s wx => v = .int .i64 a ∧ (∃ sg : ByteArray, s = .string sg ∧ Hid (sg.data.toList = if n < 0 then [45] else []) ∧ sg.size ≤ 1) ∧ wx = w)
  case first =>
    by_cases hn : n < 0
    · have hx := Lib.hid (show a = -n by rw [← HA.out]; unfold absI; rw [if_pos hn])
      go_wp2_with (fail)
      go_meet
      exact ⟨by rw [hx.out], ⟨_, rfl, Lib.hid (by rw [if_pos (by omega)]), by decide⟩, rfl⟩
    · have hx := Lib.hid (show a = n by rw [← HA.out]; unfold absI; rw [if_neg hn])
      go_wp2_with (fail)
      go_meet
      exact ⟨by rw [hx.out], ⟨_, rfl, Lib.hid (by rw [if_neg (by omega)]), by decide⟩, rfl⟩
  case rest =>
  obtain ⟨rfl, ⟨sg, rfl, HS, hsg⟩, rfl⟩ := hcut
  have eF : a / 10000 = F := HFD.out
  have eM : a % 10000 = M := HMD.out
  go_wp2_with fail
  refine (itoa_any F _ (by omega) (by omega) HT.out).mono ?_
  rintro e w1 ⟨⟨tf, rfl, htf⟩, hb1⟩
  have htl : tf.size ≤ 11 := by rw [dsize htf]; exact HI.out
  have HTF := Lib.hid htf
  have HT1 := Lib.hid (HT.out.below hb1)
  clear htf
  go_wp2_with fail
  refine (padded_any M 4 w1 hM0 (by omega) (by omega) HT1.out).mono ?_
  rintro e w2 ⟨⟨tm, rfl, htm⟩, hb2⟩
  have html : tm.size ≤ 4 := by rw [dsize htm, HFR.out.1]; exact Nat.le_refl _
  have HTM := Lib.hid htm
  have hbw := hb1.trans (hb2.mono hb1.size)
  clear htm hb1 hb2
  go_wp2_with fail
  refine (trim_right0 tm w2 (by omega)).mono ?_
  rintro e w3 ⟨⟨u, rfl, hu⟩, rfl⟩
  rw [HTM.out] at hu
  have hul : u.size ≤ 4 := by rw [dsize hu]; exact HFR.out.2
  have HU := Lib.hid (show u.data.toList = fracT M from hu)
  clear hu
  by_cases h0 : u = ⟨#[]⟩
  · have HE := Lib.hid (show fracT M = [] by rw [← HU.out, h0])
    subst h0
    go_wp2
    go_ret
    exact ⟨⟨_, rfl, by rw [HN.out, toList_app, HS.out, HTF.out, if_pos HE.out, List.append_nil]⟩, hbw⟩
  · have hne : u.data.toList ≠ [] := fun e => h0 (ba_of e)
    have se : u.toList.isEmpty = false := by rw [ByteArray.toList_eq]; simpa using hne
    have HE := Lib.hid (show fracT M ≠ [] by rw [← HU.out]; exact hne)
    clear hne h0
    go_wp2
    go_ret
    exact ⟨⟨_, rfl, by rw [HN.out, toList_app, toList_app, toList_app, HS.out, HTF.out, if_neg HE.out, HU.out]; simp⟩, hbw⟩
end Go.Proofs.YtcmccjcelchlhaaGreatDoor
namespace Go.Proofs.YtcmccjcelchlhaaGreatDoor
open Go.RowKit Dig Vtx

/-- the library's own variable holds some number -/
def Mx (w : World) : Prop := ∃ m, w.cell? ⟨2, 0, none⟩ = some (.int .i64 m)
theorem Mx.below {w w' : World} (h : Mx w) (hb : Below w.heap.size w w') : Mx w' := by
  obtain ⟨m, hm⟩ := h
  exact ⟨m, Below.cell_of hb hm⟩
theorem wholeV_form (l : List UInt8) : ∃ (a : Nat) (ok : Bool), wholeF l = (a, ok) ∧ wholeV l = .tuple #[.int .i64 (a : Nat), .bool ok] ∧ a ≤ 1000000000000000 := by
  have hb : (wholeF l).1 ≤ 1000000000000000 := by
    unfold wholeF
    split
    · exact Nat.zero_le _
    · rename_i h
      split
      · rename_i hd
        have := digVal_bd l hd
        have : 10 ^ l.length ≤ 10 ^ 15 := Nat.pow_le_pow_right (by omega) (by simp only [not_or] at h; omega)
        show digVal l ≤ _
        omega
      · exact Nat.zero_le _
  exact ⟨_, _, rfl, rfl, hb⟩
/-- a value of one number, or none -/
def optV (k : Int) (o : Option Int) : Value := match o with
  | some n => .tuple #[.agg #[.int .i64 k, .int .i64 n, .string ⟨#[]⟩, .slice none 0 0], .bool true]
  | none => .tuple #[.agg #[.int .i64 0, .int .i64 0, .string ⟨#[]⟩, .slice none 0 0], .bool false]
end Go.Proofs.YtcmccjcelchlhaaGreatDoor
namespace Go.Proofs.YtcmccjcelchlhaaGreatDoor
open Go.RowKit Dig Vtx

theorem infoS : (Tryz.prog.info? 9).map (fun i => (i.zero, i.size, i.bytes)) = some (some (.string ByteArray.empty), 1, 16) := by kernel_rfl
theorem own_strs {w : World} {B' n : Nat} {v : Value} {xs : List ByteArray} (h : w.ownsRow B' 9 1 v n (xs.map Value.string)) : n = xs.length ∧ ((v = .slice none 0 0 ∧ xs = []) ∨ ∃ g c, v = .slice (some ⟨g, 0, none⟩) xs.length c ∧ g < w.heap.size ∧ xs.length ≤ c ∧ ∀ j x, xs[j]? = some x → w.cell? ⟨g, 0 + j, none⟩ = some (.string x)) := by
  obtain ⟨h1, h2⟩ := id h
  have hn : n = xs.length := by simp at h1; omega
  subst hn
  refine ⟨rfl, ?_⟩
  rcases h2 with ⟨rfl, e0⟩ | ⟨g, cap, cur, rfl, e1, e2, e3, e4, e5⟩
  · exact .inl ⟨rfl, List.eq_nil_of_length_eq_zero e0⟩
  · refine .inr ⟨g, cap, rfl, ?_, e3, fun j x hx => ?_⟩
    · rcases Nat.lt_or_ge g w.heap.size with h' | h'
      · exact h'
      · rw [Array.getElem?_eq_none h'] at e2; cases e2
    · have := h.cells (g := g) rfl j (.string x) (by simp [hx])
      rwa [Addr.add_lit] at this
theorem join_own {B' n : Nat} {v : Value} (xs : List ByteArray) (sep : ByteArray) (w : World) (h : w.ownsRow B' 9 1 v n (xs.map Value.string)) (hN : xs.length ≤ 140737488355328)
    (hlen : (Lib.join (xs.map (·.data.toList)) sep.data.toList).length ≤ 140737488355328) :
    Calls Tryz.prog 99 #[v, .string sep] w fun e w' => (∃ t : ByteArray, e = .returned (.string t) ∧ t.data.toList = Lib.join (xs.map (·.data.toList)) sep.data.toList) ∧ Below w.heap.size w w' := by
  obtain ⟨rfl, ⟨rfl, rfl⟩ | ⟨g, c, rfl, hg, hc, hcells⟩⟩ := own_strs h
  · exact (Tryz.strings_Join_none none 0 sep w).mono fun _ _ ⟨he, hw⟩ => ⟨⟨_, he, rfl⟩, hw ▸ Below.refl _ _⟩
  · exact (Tryz.strings_Join g 0 c xs sep w hcells hg hN hc hlen).mono fun _ _ ⟨he, hb⟩ => ⟨⟨_, he, rfl⟩, hb⟩
theorem own_below {w w' : World} {B size n : Nat} {e : TypeId} {v : Value} {xs : List Value} (h : w.ownsRow B e size v n xs) (hb : Below w.heap.size w w') : w'.ownsRow B e size v n xs := by
  refine ⟨h.1, h.2.imp id ?_⟩
  rintro ⟨g, cap, cur, e0, e1, e2, e3, e4, e5, e6⟩
  have hlt : g < w.heap.size := by
    rcases Nat.lt_or_ge g w.heap.size with h' | h'
    · exact h'
    · rw [Array.getElem?_eq_none h'] at e2; cases e2
  exact ⟨g, cap, cur, e0, e1, (hb.block g hlt).trans e2, e3, e4, e5, e6⟩
/-- the texts of a set's codes -/
def codeS (l : List Int) : List ByteArray := l.map fun c => ⟨(codeT c).toArray⟩
theorem codeS_data (l : List Int) : (codeS l).map (·.data.toList) = l.map codeT := by simp [codeS]
theorem code_len {c : Int} (h : 1 ≤ c ∧ c ≤ 999) : (codeT c).length ≤ 4 := by
  rw [code_nat (by omega), List.length_cons]
  have := dec_len 2 c.toNat (by omega)
  omega
theorem joinT_len : ∀ (l : List Int), (∀ c ∈ l, 1 ≤ c ∧ c ≤ 999) → (Lib.join (l.map codeT) [44]).length ≤ 5 * l.length
  | [], _ => by simp [Lib.join_nil]
  | [c], h => by
    rw [List.map_cons, List.map_nil, Lib.join_one]
    have := code_len (h c (List.mem_cons_self ..))
    simp; omega
  | c :: d :: r, h => by
    have e : Lib.join ((c :: d :: r).map codeT) [44] = codeT c ++ 44 :: Lib.join ((d :: r).map codeT) [44] := by
      simp only [List.map_cons]
      rw [Lib.join_cons, Lib.join_cons]; simp [Lib.joinTail]
    have := joinT_len (d :: r) (fun x hx => h x (List.mem_cons_of_mem _ hx))
    have := code_len (h c (List.mem_cons_self ..))
    rw [e]
    simp only [List.length_append, List.length_cons] at *
    omega
set_option maxHeartbeats 2000000 in
set_option maxRecDepth 100000 in
theorem showSet_any (A : Option Addr) (l : List Int) (c B1 : Nat) (w : World) (hl : l.length ≤ 1000) (hc : ∀ c ∈ l, 1 ≤ c ∧ c ≤ 999) (hx : Reads w B1 1 A l.length (numV .i64 l)) (hB1 : B1 ≤ w.heap.size) (htab : Tab w) :
    Calls Tryz.prog 95 #[.slice A l.length c] w fun e w' => (∃ t : ByteArray, e = .returned (.string t) ∧ t.data.toList = setT l) ∧ Below w.heap.size w w' := by
  have HT := Lib.hid htab
  have HX := Lib.hid (hx.more hB1)
  have HC := Lib.hid hc
  clear htab hx hc
  obtain ⟨i0, hi0, hz0, hz1, hz2⟩ := info_parts infoS
  go_enter Tryz.func95, Tryz.ntmps95
  go_wp2
  go_loopw [3, 8] (fun v i wr => ∃ k : Nat, k ≤ l.length ∧ i = .int .i64 k ∧ wr.ownsRow w.heap.size 9 1 v k ((codeS (l.take k)).map Value.string) ∧ Below w.heap.size w wr) (fun _ i _ => l.length - (intOf i).toNat)
  case atStart => exact ⟨0, Nat.zero_le _, rfl, World.ownsRow_nil _ _ _ _, Below.refl _ _⟩
  case round =>
    obtain ⟨k, hk, rfl, hown, hbr⟩ := hrel
    have HO := Lib.hid hown
    clear hown
    have hsr := hbr.size
    by_cases hlt : k < l.length
    · obtain ⟨ad, u, rfl, hb, hu, hcell⟩ := (HX.out.below hbr).at_ hlt
      obtain ⟨hkl, rfl⟩ := numV_get _ _ _ _ hu
      obtain ⟨x, hx⟩ : ∃ x, l[k] = x := ⟨_, rfl⟩
      have hxc := HC.out l[k] (List.getElem_mem hkl)
      rw [hx] at hxc hcell
      obtain ⟨hx1, hx2⟩ := hxc
      have HXX := Lib.hid hx
      have HT1 := Lib.hid (HT.out.below hbr)
      clear hu hx
      go_wp2_with fail
      refine (itoa_any x wr (by omega) (by omega) HT1.out).mono ?_
      rintro e w2 ⟨⟨t, rfl, ht⟩, hb2⟩
      have HTT := Lib.hid ht
      have hown2 := own_below HO.out hb2
      have hbr2 := hbr.trans (hb2.mono hsr)
      have hs2 := hbr2.size
      have htl : t.size ≤ 20 := by
        rw [dsize ht]
        obtain ⟨m, rfl⟩ : ∃ m : Nat, x = m := ⟨x.toNat, by omega⟩
        rw [itoa_nat]
        have := dec_len 2 m (by omega)
        omega
      have HN := Lib.hid (show (codeS (l.take (k + 1))).map Value.string = (codeS (l.take k)).map Value.string ++ [.string (⟨#[35]⟩ ++ t)] by
        rw [List.take_succ_eq_append_getElem hkl, HXX.out]
        unfold codeS
        rw [List.map_append, List.map_append]
        congr 1
        show [Value.string _] = _
        rw [ba_of (show (⟨#[35]⟩ ++ t : ByteArray).data.toList = codeT x by rw [toList_app, HTT.out]; rfl)])
      clear ht hcell HO hb2
      go_wp2_with (at_builtin; refine wpList_append_own _ rfl _ _ 34 rfl w.heap.size 9 i0 (.string ByteArray.empty) 1 16 Tryz.underlying34 hi0 hz0 hz1 hz2 rfl (by decide) _ _ _ rfl (hown2.alloc _) ⟨w2.heap.size, 0, none⟩ 1 1 [.string (⟨#[35]⟩ ++ t)] rfl rfl ?c1 ?c2 ?c3 ?c4 ?c5 ?_)
      case c1 => intro j u hj; cases j <;> simp_all [go_sem]
      case c2 => intro u hu; simp only [List.mem_singleton] at hu; subst hu; rfl
      case c3 => unfold maxLen; omega
      case c4 => omega
      case c5 => simp; omega
      intro v2 w3 hown3 hg3 _
      have hb3 : Below w.heap.size w w3 := (hbr2.alloc (by omega) _).grown hg3 (by simp; omega) (fun g hg => (hown2.lt g hg).1)
      have HO := Lib.hid (show w3.ownsRow w.heap.size 9 1 v2 (k + 1) ((codeS (l.take (k + 1))).map Value.string) by rw [HN.out]; exact hown3)
      clear hown3 hg3 hown2
      go_wp2
      go_roundw
      case rel => exact ⟨k + 1, by omega, by go_num, HO.out, hb3⟩
      case measure => simp [intOf]; omega
    · have HF := Lib.hid (show wr.ownsRow w.heap.size 9 1 _ k ((codeS l).map Value.string) by
        have h := HO.out
        rwa [List.take_of_length_le (by omega)] at h)
      have hjl := joinT_len l HC.out
      clear HO
      go_wp2_with fail
      refine (join_own (codeS l) ⟨#[44]⟩ wr HF.out (by unfold codeS; simp; omega) (by rw [codeS_data]; show (Lib.join _ [44]).length ≤ _; omega)).mono ?_
      rintro e w2 ⟨⟨t, rfl, ht⟩, hb2⟩
      rw [codeS_data] at ht
      have HTT := Lib.hid (show t.data.toList = Lib.join (l.map codeT) [44] from ht)
      have htl : t.size ≤ 5000 := by rw [dsize HTT.out]; omega
      have hb3 := hbr.trans (hb2.mono hsr)
      clear ht
      go_wp2
      go_ret
      exact ⟨⟨_, rfl, by rw [toList_app, toList_app, HTT.out]; rfl⟩, hb3⟩
end Go.Proofs.YtcmccjcelchlhaaGreatDoor
namespace Go.Proofs.YtcmccjcelchlhaaGreatDoor
open Go.RowKit

theorem ret_tup3 {a b c a' b' c' : Int} (h1 : a = a') (h2 : b = b') (h3 : c = c') : Ending.returned (.tuple #[.int .i64 a, .int .i64 b, .int .i64 c]) = .returned (.tuple #[.int .i64 a', .int .i64 b', .int .i64 c']) := by rw [h1, h2, h3]

theorem leap_any (y : Int) (w : World) (h0 : 0 ≤ y) (h1 : y ≤ 10000) :
    Calls Tryz.prog 183 #[.int .i64 y] w fun e w' => e = .returned (.bool (Cal.lp y)) ∧ w = w' := by
  go_enter Tryz.func183, Tryz.ntmps183
  go_wp2
  all_goals (go_ret; exact ⟨ret_bool (by simp_all [Cal.lp, Bool.beq_eq_decide_eq]), rfl⟩)

theorem rleap_any (y : Int) (w : World) (h0 : 0 ≤ y) (h1 : y ≤ 10000) :
    Calls Tryz.prog 165 #[.int .i64 y] w fun e w' => e = .returned (.bool (Cal.lp y)) ∧ w = w' := by
  go_enter Tryz.func165, Tryz.ntmps165
  go_wp2
  all_goals (go_ret; exact ⟨ret_bool (by simp_all [Cal.lp, Bool.beq_eq_decide_eq, bne]), rfl⟩)

theorem daysOf_any (y m : Int) (w : World) (h0 : 0 ≤ y) (h1 : y ≤ 10000) :
    Calls Tryz.prog 163 #[.int .i64 y, .int .i64 m] w fun e w' => e = .returned (.int .i64 (Cal.dim y m)) ∧ w = w' := by
  go_enter Tryz.func163, Tryz.ntmps163
  go_wp2_with (go_at_call 183; refine (leap_any _ _ h0 h1).mono ?_; rintro e w' ⟨rfl, rfl⟩)
  all_goals (go_ret; exact ⟨ret_int (by simp_all [Cal.dim]), rfl⟩)

theorem monthDays_any (y m : Int) (w : World) (h0 : 0 ≤ y) (h1 : y ≤ 10000) :
    Calls Tryz.prog 140 #[.int .i64 y, .int .i64 m] w fun e w' => e = .returned (.int .i64 (Cal.dim y m)) ∧ w = w' := by
  go_enter Tryz.func140, Tryz.ntmps140
  go_wp2_with (go_at_call 165; refine (rleap_any _ _ h0 h1).mono ?_; rintro e w' ⟨rfl, rfl⟩)
  all_goals (go_ret; exact ⟨ret_int (by simp_all [Cal.dim]), rfl⟩)

theorem yearDays_any (y : Int) (w : World) (h0 : 0 ≤ y) (h1 : y ≤ 10000) :
    Calls Tryz.prog 139 #[.int .i64 y] w fun e w' => e = .returned (.int .i64 (Cal.yd y)) ∧ w = w' := by
  go_enter Tryz.func139, Tryz.ntmps139
  go_wp2_with (go_at_call 165; refine (rleap_any _ _ h0 h1).mono ?_; rintro e w' ⟨rfl, rfl⟩)
  all_goals (go_ret; exact ⟨ret_int (by simp_all [Cal.yd]), rfl⟩)

theorem number_any (y m d : Int) (w : World) (h0 : 1600 ≤ y) (h1 : y ≤ 2400) (m1 : 1 ≤ m) (m2 : m ≤ 12) (d0 : 0 ≤ d) (d1 : d ≤ 40) :
    Calls Tryz.prog 133 #[.int .i64 y, .int .i64 m, .int .i64 d] w fun e w' => e = .returned (.int .i64 (Cal.num y m d)) ∧ w = w' := by
  have hb := Cal.base_bd y h0 h1
  go_enter Tryz.func133, Tryz.ntmps133
  go_wp2
  go_loop [9, 8] (fun k s => ∃ j : Int, 1 ≤ j ∧ j ≤ m ∧ k = .int .i64 j ∧ s = .int .i64 (Cal.base y + Cal.cum y j)) (fun k _ => (m - intOf k).toNat)
  case atStart => exact ⟨1, by omega, by omega, rfl, by rw [Cal.cum_one]; unfold Cal.base; simp⟩
  case round =>
    obtain ⟨j, hj1, hj2, rfl, rfl⟩ := hrel
    have cb := Cal.cum_bd y j
    have db := Cal.dim_bd y j
    by_cases hlt : j < m
    · have cs := Cal.cum_succ y j hj1 (by omega)
      have CS := Lib.hid cs
      clear cs
      go_wp2_with (go_at_call 163; refine (daysOf_any _ _ _ (by omega) (by omega)).mono ?_; rintro e w' ⟨rfl, rfl⟩)
      go_round
      case rel => exact ⟨j + 1, by omega, by omega, rfl, by rw [CS.out, Int.add_assoc]⟩
      case measure => simp [intOf]; omega
    · obtain rfl : j = m := by omega
      go_wp2
      go_ret
      exact ⟨ret_int (by unfold Cal.num; rfl), rfl⟩
end Go.Proofs.YtcmccjcelchlhaaGreatDoor
namespace Go.Proofs.YtcmccjcelchlhaaGreatDoor
open Go.RowKit

theorem num_bd (y m d : Int) (h0 : 1600 ≤ y) (h1 : y ≤ 2400) (d0 : 0 ≤ d) (d1 : d ≤ 40) : -200000 ≤ Cal.num y m d ∧ Cal.num y m d ≤ 200000 := by
  have := Cal.base_bd y h0 h1
  have := Cal.cum_bd y m
  unfold Cal.num
  omega
theorem num_one (y m : Int) : Cal.num y m 1 = Cal.base y + Cal.cum y m := by unfold Cal.num; omega
theorem num_11 (y : Int) : Cal.num y 1 1 = Cal.base y := by unfold Cal.num; rw [Cal.cum_one]; omega
theorem ret_tup4 {a b c d a' b' c' d' : Int} (h1 : a = a') (h2 : b = b') (h3 : c = c') (h4 : d = d') : Ending.returned (.tuple #[.int .i64 a, .int .i64 b, .int .i64 c, .int .i64 d]) = .returned (.tuple #[.int .i64 a', .int .i64 b', .int .i64 c', .int .i64 d']) := by rw [h1, h2, h3, h4]

set_option maxHeartbeats 800000 in
theorem civil_any (n : Int) (w : World) (h1 : -25567 ≤ n) (h2 : n ≤ 84005) :
    Calls Tryz.prog 96 #[.int .i64 n] w fun e w' => e = .returned (.tuple #[.int .i64 (Cal.cy n), .int .i64 (Cal.cm n), .int .i64 (Cal.cd n)]) ∧ w = w' := by
  obtain ⟨g1, g2, g3⟩ := Cal.guess_ok h1 h2
  have main : ∀ g : Int, Cal.base g ≤ n → 1899 ≤ g → g ≤ 2199 → Cal.guess n = g → Calls Tryz.prog 96 #[.int .i64 n] w fun e w' => e = .returned (.tuple #[.int .i64 (Cal.cy n), .int .i64 (Cal.cm n), .int .i64 (Cal.cd n)]) ∧ w = w' := by
    intro g g1 g2 g3 hg
    have hq1 := Cal.tdiv_bd h1 h2
    obtain ⟨q1, q2, q3, q4⟩ := hq1
    have HG := Lib.hid hg
    clear hg
    by_cases hn : n < 0
    all_goals
      have HE := Lib.hid HG.out
      unfold Cal.guess at HE
      go_enter Tryz.func96, Tryz.ntmps96
      go_wp2
      go_loop [2] (fun t => ∃ y : Int, Cal.base y ≤ n ∧ 1899 ≤ y ∧ y ≤ 2199 ∧ t = .int .i64 y) (fun t => (2200 - intOf t).toNat)
      case atStart =>
        refine ⟨g, g1, g2, g3, ?_⟩
        rw [← HE.out]
        first | rw [if_pos hn] | rw [if_neg (by omega)]
      case round =>
        obtain ⟨y, hb, y1, y2, rfl⟩ := hrel
        have e11 := num_11 (y + 1)
        have nb := num_bd (y + 1) 1 1 (by omega) (by omega) (by omega) (by omega)
        obtain ⟨nb1, nb2⟩ := nb
        by_cases hc : Cal.base (y + 1) ≤ n
        · have hc' : Cal.num (y + 1) 1 1 ≤ n := by omega
          have y3 : y + 1 ≤ 2199 := by
            by_cases h : y + 1 ≤ 2199
            · exact h
            · have := Cal.base_2200
              have := Cal.base_mono (show 2200 ≤ y + 1 by omega)
              omega
          clear e11
          go_wp2_with (go_at_call 133; refine (number_any _ _ _ _ (by omega) (by omega) (by omega) (by omega) (by omega) (by omega)).mono ?_; rintro e w' ⟨rfl, rfl⟩)
          go_round
          case rel => exact ⟨y + 1, hc, by omega, y3, rfl⟩
          case measure => simp [intOf]; omega
        · have hc' : n < Cal.num (y + 1) 1 1 := by omega
          have hs := Cal.base_succ y
          have hs' : n < Cal.base y + Cal.yd y := by omega
          clear e11 hs hc
          go_wp2_with (go_at_call 133; refine (number_any _ _ _ _ (by omega) (by omega) (by omega) (by omega) (by omega) (by omega)).mono ?_; rintro e w' ⟨rfl, rfl⟩)
          go_loop [3] (fun t => ∃ m : Int, 1 ≤ m ∧ m ≤ 12 ∧ t = .int .i64 m ∧ Cal.base y + Cal.cum y m ≤ n) (fun t => (12 - intOf t).toNat)
          case atStart => exact ⟨1, by omega, by omega, rfl, by rw [Cal.cum_one]; omega⟩
          case round =>
            obtain ⟨m, m1, m2, rfl, hm⟩ := hrel
            have en := num_one y (m + 1)
            have nb := num_bd y (m + 1) 1 (by omega) (by omega) (by omega) (by omega)
            obtain ⟨nb3, nb4⟩ := nb
            have nb' := num_bd y m 1 (by omega) (by omega) (by omega) (by omega)
            obtain ⟨nb5, nb6⟩ := nb'
            by_cases hd : m < 12 ∧ Cal.base y + Cal.cum y (m + 1) ≤ n
            · obtain ⟨hd1, hd2⟩ := hd
              have hd3 : Cal.num y (m + 1) 1 ≤ n := by omega
              clear en
              go_wp2_with (go_at_call 133; refine (number_any _ _ _ _ (by omega) (by omega) (by omega) (by omega) (by omega) (by omega)).mono ?_; rintro e w' ⟨rfl, rfl⟩)
              go_round
              case rel => exact ⟨m + 1, by omega, by omega, rfl, hd2⟩
              case measure => simp [intOf]; omega
            · have hv : n < Cal.base y + Cal.cum y m + Cal.dim y m := by
                by_cases h12 : m = 12
                · have := Cal.cum_succ y 12 (by omega) (by omega)
                  have h13 := Cal.cum_13 y
                  subst h12
                  simp only [show (12 : Int) + 1 = 13 from rfl] at *
                  omega
                · have := Cal.cum_succ y m m1 m2
                  omega
              have hciv := Cal.civil_of hm hv m1 m2
              have en1 := num_one y m
              have HR : Hid (Cal.cy n = y ∧ Cal.cm n = m ∧ Cal.cd n = n - Cal.num y m 1 + 1) := ⟨hciv.cy, hciv.cm, by rw [hciv.cd, en1]⟩
              have hd4 : m < 12 → n < Cal.num y (m + 1) 1 := fun h => by omega
              clear hd en en1 hciv
              by_cases h12 : m < 12
              all_goals
                first | have hd5 := hd4 h12 | skip
                clear hd4
                go_wp2_with (go_at_call 133; refine (number_any _ _ _ _ (by omega) (by omega) (by omega) (by omega) (by omega) (by omega)).mono ?_; rintro e w' ⟨rfl, rfl⟩)
                go_ret3
                exact ⟨ret_tup3 HR.out.1.symm HR.out.2.1.symm HR.out.2.2.symm, rfl⟩
  exact main _ g1 g2 g3 rfl

theorem wd_eq {n : Int} (h1 : -25567 ≤ n) (h2 : n ≤ 84005) : ((n + 3).tmod 7 + 7) % 7 = (n + 3) % 7 ∧ -7 < (n + 3).tmod 7 ∧ (n + 3).tmod 7 < 7 := by
  by_cases hn : n + 3 < 0
  · obtain ⟨j, hj⟩ : ∃ j : Nat, n + 3 = -(j : Int) := ⟨(n + 3).natAbs, by omega⟩
    rw [hj, Int.neg_tmod, Int.tmod_eq_emod_of_nonneg (by omega)]
    omega
  · rw [Int.tmod_eq_emod_of_nonneg (by omega)]
    omega
theorem RCivil_off (n : Int) (w : World) (h : n < -25567 ∨ 84005 < n) :
    Calls Tryz.prog 104 #[.int .i64 n] w fun e w' => e = .returned (.tuple #[.int .i64 0, .int .i64 0, .int .i64 0, .int .i64 1]) ∧ w = w' := by
  have b1 : outB n (-25567) 84005 = true := outB_true (by omega)
  clear h
  go_enter Tryz.func104, Tryz.ntmps104
  go_wp2_with (go_at_call 44; refine (within_any _ _ _ _).mono ?_; rintro e w' ⟨rfl, rfl⟩)
  refine bodyPost_ret (results_tmp4 rfl _ _ _) rfl ?_
  exact ⟨rfl, rfl⟩
set_option maxHeartbeats 800000 in
theorem RCivil_in (n : Int) (w : World) (h1 : -25567 ≤ n) (h2 : n ≤ 84005) :
    Calls Tryz.prog 104 #[.int .i64 n] w fun e w' => e = .returned (.tuple #[.int .i64 (Cal.cy n), .int .i64 (Cal.cm n), .int .i64 (Cal.cd n), .int .i64 0]) ∧ w = w' := by
  have b1 : outB n (-25567) 84005 = false := outB_false (by omega) (by omega)
  go_enter Tryz.func104, Tryz.ntmps104
  go_wp2_with (go_at_call 44; refine (within_any _ _ _ _).mono ?_; rintro e w' ⟨rfl, rfl⟩)
  clear b1
  go_loop [6, 7] (fun t r => ∃ y : Int, 1900 ≤ y ∧ y ≤ 2199 ∧ 0 ≤ n - Cal.base y ∧ t = .int .i64 y ∧ r = .int .i64 (n - Cal.base y)) (fun t _ => (2200 - intOf t).toNat)
  case atStart =>
    have hb := Cal.base_1900
    exact ⟨1900, by omega, by omega, by omega, rfl, by rw [hb]; go_num⟩
  case round =>
    obtain ⟨y, y1, y2, hr, rfl, rfl⟩ := hrel
    have yb := Cal.base_bd y (by omega) (by omega)
    obtain ⟨yb1, yb2⟩ := yb
    have ydb := Cal.yd_pos y
    obtain ⟨ydb1, ydb2⟩ := ydb
    have hs := Cal.base_succ y
    have HS := Lib.hid hs
    clear hs
    by_cases hc : Cal.yd y ≤ n - Cal.base y
    · have y3 : y + 1 ≤ 2199 := by
        have := HS.out
        by_cases h : y + 1 ≤ 2199
        · exact h
        · have := Cal.base_2200
          have := Cal.base_mono (show 2200 ≤ y + 1 by omega)
          omega
      go_wp2_with (go_at_call 139; refine (yearDays_any _ _ (by omega) (by omega)).mono ?_; rintro e w' ⟨rfl, rfl⟩)
      go_round
      case rel => exact ⟨y + 1, by omega, y3, by rw [HS.out]; omega, rfl, by rw [HS.out, show n - (Cal.base y + Cal.yd y) = n - Cal.base y - Cal.yd y from by omega]⟩
      case measure => simp [intOf]; omega
    · go_wp2_with (go_at_call 139; refine (yearDays_any _ _ (by omega) (by omega)).mono ?_; rintro e w' ⟨rfl, rfl⟩)
      go_loop [7, 8] (fun r t => ∃ m : Int, 1 ≤ m ∧ m ≤ 12 ∧ t = .int .i64 m ∧ 0 ≤ n - Cal.base y - Cal.cum y m ∧ r = .int .i64 (n - Cal.base y - Cal.cum y m)) (fun _ t => (12 - intOf t).toNat)
      case atStart => exact ⟨1, by omega, by omega, rfl, by rw [Cal.cum_one]; omega, by rw [Cal.cum_one]; simp⟩
      case round =>
        obtain ⟨m, m1, m2, rfl, hm, rfl⟩ := hrel
        have cb := Cal.cum_bd y m
        have db := Cal.dim_bd y m
        obtain ⟨cb1, cb2⟩ := cb
        obtain ⟨db1, db2⟩ := db
        have CS := Lib.hid (Cal.cum_succ y m m1 m2)
        by_cases hd : Cal.dim y m ≤ n - Cal.base y - Cal.cum y m
        · have m3 : m + 1 ≤ 12 := by
            by_cases h : m = 12
            · subst h
              have := CS.out
              have h13 := Cal.cum_13 y
              simp only [show (12 : Int) + 1 = 13 from rfl] at *
              omega
            · omega
          go_wp2_with (go_at_call 140; refine (monthDays_any _ _ _ (by omega) (by omega)).mono ?_; rintro e w' ⟨rfl, rfl⟩)
          go_round
          case rel => exact ⟨m + 1, by omega, m3, rfl, by rw [CS.out]; omega, by rw [CS.out, show n - Cal.base y - (Cal.cum y m + Cal.dim y m) = n - Cal.base y - Cal.cum y m - Cal.dim y m from by omega]⟩
          case measure => simp [intOf]; omega
        · have hciv := Cal.civil_of (n := n) (y := y) (m := m) (by omega) (by omega) m1 m2
          have HR : Hid (Cal.cy n = y ∧ Cal.cm n = m ∧ Cal.cd n = n - Cal.base y - Cal.cum y m + 1) := ⟨hciv.cy, hciv.cm, by rw [hciv.cd]; omega⟩
          clear hciv
          go_wp2_with (go_at_call 140; refine (monthDays_any _ _ _ (by omega) (by omega)).mono ?_; rintro e w' ⟨rfl, rfl⟩)
          refine bodyPost_ret (results_tmp4 rfl _ _ _) rfl ?_
          exact ⟨ret_tup4 HR.out.1.symm HR.out.2.1.symm HR.out.2.2.symm rfl, rfl⟩
end Go.Proofs.YtcmccjcelchlhaaGreatDoor
namespace Go.Proofs.YtcmccjcelchlhaaGreatDoor
open Go.RowKit

def dk (y m d : Int) : Int := if Cal.okDate y m d = true then 6 else 0
def dn (y m d : Int) : Int := if Cal.okDate y m d = true then Cal.num y m d else 0
theorem okDate_no {y m d : Int} (h : outB y 1800 2300 = true ∨ outB m 1 12 = true ∨ outB d 1 (Cal.dim y m) = true) : Cal.okDate y m d = false := by
  rw [Bool.eq_false_iff]
  intro e
  rw [Cal.okDate_iff] at e
  simp only [outB, Bool.or_eq_true, decide_eq_true_eq] at h
  omega
end Go.Proofs.YtcmccjcelchlhaaGreatDoor
namespace Go.Proofs.YtcmccjcelchlhaaGreatDoor
open Go.RowKit Dig Vtx

theorem replaceAll_any (s o n : ByteArray) (w : World) (hs : s.size ≤ 2000000) (h1 : 1 ≤ o.size) (hn : n.size ≤ 2) (hm : Mx w) :
    Calls Tryz.prog 94 #[.string s, .string o, .string n] w fun e w' => (∃ t : ByteArray, e = .returned (.string t) ∧ t.data.toList = Lib.replaceAll s.data.toList o.data.toList n.data.toList) ∧ Below w.heap.size w w' := by
  obtain ⟨m, hm⟩ := hm
  have hc := Lib.countB_le o h1 s.size s (Nat.le_refl _)
  have : Lib.countB s o * n.size ≤ s.size * 2 := Nat.mul_le_mul hc hn
  exact (Tryz.strings_ReplaceAll s o n m w (by omega) hm h1 (by omega)).mono fun _ _ ⟨he, hb⟩ => ⟨⟨_, he, rfl⟩, hb⟩
theorem esc_len (s : List UInt8) : (Lib.replaceAll s [39] [39, 39]).length ≤ 2 * s.length := by
  rw [replaceAll_repl (by simp), repl_subst1]
  induction s with
  | nil => simp [subst1]
  | cons b r ih =>
    have e : subst1 39 [39, 39] (b :: r) = (if b = 39 then [39, 39] else [b]) ++ subst1 39 [39, 39] r := by simp [subst1]
    rw [e, List.length_append, List.length_cons]
    split <;> simp <;> omega
set_option maxHeartbeats 4000000 in
set_option maxRecDepth 100000 in
theorem show_any (k n : Int) (s : ByteArray) (l : List Int) (S : List UInt8) (A : Option Addr) (c B1 : Nat) (w : World) (hS : s.data.toList = S) (hq : Snd k n S l) (hl : l.length ≤ 1000) (hs : s.size ≤ 1000)
    (hx : Reads w B1 1 A l.length (numV .i64 l)) (hB1 : B1 ≤ w.heap.size) (htab : Tab w) (hm : Mx w) :
    Calls Tryz.prog 55 #[.agg #[.int .i64 k, .int .i64 n, .string s, .slice A l.length c]] w fun e w' => (∃ t : ByteArray, e = .returned (.string t) ∧ t.data.toList = showT k n S l) ∧ Below w.heap.size w w' := by
  have HT := Lib.hid htab
  have HM := Lib.hid hm
  have HX := Lib.hid (hx.more hB1)
  have HS := Lib.hid hS
  clear htab hm hx hS hB1
  have hba : ∀ o : Obj, Below w.heap.size w (w.alloc o) := fun o => (Below.refl _ _).alloc (Nat.le_refl _) _
  have HBA := Lib.hid hba
  clear hba
  cases hq with
  | none_ =>
    go_enter Tryz.func55, Tryz.ntmps55
    go_wp2
    go_ret
    exact ⟨⟨_, rfl, rfl⟩, HBA.out _⟩
  | word h1 h2 =>
    have i1 : ∀ w, (Instr.index 137 (.agg #[.string ⟨#[]⟩, .string ⟨#[100, 111, 110, 116, 107, 110, 111, 119]⟩, .string ⟨#[114, 101, 102, 117, 115, 101, 100]⟩, .string ⟨#[110, 111, 97, 110, 115, 119, 101, 114]⟩]) (.int .i64 1)).run Tryz.prog w = .ok (.string ⟨#[100, 111, 110, 116, 107, 110, 111, 119]⟩) w := fun _ => by kernel_rfl
    have i2 : ∀ w, (Instr.index 137 (.agg #[.string ⟨#[]⟩, .string ⟨#[100, 111, 110, 116, 107, 110, 111, 119]⟩, .string ⟨#[114, 101, 102, 117, 115, 101, 100]⟩, .string ⟨#[110, 111, 97, 110, 115, 119, 101, 114]⟩]) (.int .i64 2)).run Tryz.prog w = .ok (.string ⟨#[114, 101, 102, 117, 115, 101, 100]⟩) w := fun _ => by kernel_rfl
    have i3 : ∀ w, (Instr.index 137 (.agg #[.string ⟨#[]⟩, .string ⟨#[100, 111, 110, 116, 107, 110, 111, 119]⟩, .string ⟨#[114, 101, 102, 117, 115, 101, 100]⟩, .string ⟨#[110, 111, 97, 110, 115, 119, 101, 114]⟩]) (.int .i64 3)).run Tryz.prog w = .ok (.string ⟨#[110, 111, 97, 110, 115, 119, 101, 114]⟩) w := fun _ => by kernel_rfl
    obtain rfl | rfl | rfl : n = 1 ∨ n = 2 ∨ n = 3 := by omega
    all_goals
      go_enter Tryz.func55, Tryz.ntmps55
      go_wp2
      go_ret
      exact ⟨⟨_, rfl, rfl⟩, HBA.out _⟩
  | num h1 h2 =>
    have HR := Lib.hid (fun w' => showNumber_any n w' h1 h2)
    go_enter Tryz.func55, Tryz.ntmps55
    go_wp2_with fail
    refine (HR.out _ (HT.out.below (HBA.out _))).mono ?_
    rintro e w1 ⟨⟨t, rfl, ht⟩, hb⟩
    have hbw := (HBA.out _).trans (hb.mono (HBA.out _).size)
    have HTT := Lib.hid ht
    clear ht hb
    go_wp2
    go_ret
    exact ⟨⟨_, rfl, HTT.out⟩, hbw⟩
  | text S =>
    go_enter Tryz.func55, Tryz.ntmps55
    go_wp2_with fail
    refine (replaceAll_any s ⟨#[39]⟩ ⟨#[39, 39]⟩ _ (by omega) (Nat.le_refl 1) (Nat.le_refl 2) (HM.out.below (HBA.out _))).mono ?_
    rintro e w1 ⟨⟨t, rfl, ht⟩, hb⟩
    rw [HS.out] at ht
    have hbw := (HBA.out _).trans (hb.mono (HBA.out _).size)
    have HTT := Lib.hid (show t.data.toList = Lib.replaceAll S [39] [39, 39] from ht)
    have htl : t.size ≤ 2000 := by
      rw [dsize HTT.out]
      have h1 := esc_len S
      have h2 : S.length = s.size := by rw [← HS.out]; rfl
      omega
    clear ht hb
    go_wp2
    go_ret
    exact ⟨⟨_, rfl, by rw [toList_app, toList_app, HTT.out]; rfl⟩, hbw⟩
  | code h1 h2 =>
    go_enter Tryz.func55, Tryz.ntmps55
    go_wp2_with fail
    refine (itoa_any n _ (by omega) (by omega) (HT.out.below (HBA.out _))).mono ?_
    rintro e w1 ⟨⟨t, rfl, ht⟩, hb⟩
    have hbw := (HBA.out _).trans (hb.mono (HBA.out _).size)
    have HTT := Lib.hid ht
    have htl : t.size ≤ 20 := by
      rw [dsize ht]
      obtain ⟨m, rfl⟩ : ∃ m : Nat, n = m := ⟨n.toNat, by omega⟩
      rw [itoa_nat]
      have := dec_len 2 m (by omega)
      omega
    clear ht hb
    go_wp2
    go_ret
    exact ⟨⟨_, rfl, by rw [toList_app, HTT.out]; rfl⟩, hbw⟩
  | set h =>
    have HC := Lib.hid h
    clear h
    go_enter Tryz.func55, Tryz.ntmps55
    go_wp2_with fail
    refine (showSet_any A l c w.heap.size _ hl HC.out (HX.out.below (HBA.out _)) (HBA.out _).size (HT.out.below (HBA.out _))).mono ?_
    rintro e w1 ⟨⟨t, rfl, ht⟩, hb⟩
    have hbw := (HBA.out _).trans (hb.mono (HBA.out _).size)
    have HTT := Lib.hid ht
    clear ht hb
    go_wp2
    go_ret
    exact ⟨⟨_, rfl, HTT.out⟩, hbw⟩
  | day h1 h2 =>
    obtain ⟨y, m, d, ey, em, ed, hy, hmm, hd, hok, hn⟩ := day_parts h1 h2
    have HY := Lib.hid (And.intro ey (And.intro em ed))
    have HL := Lib.hid (And.intro (pad_len (w := 4) (n := y) (dec_len 3 y hy)) (And.intro (pad_len (w := 2) (n := m) (dec_len 1 m hmm)) (pad_len (w := 2) (n := d) (dec_len 1 d hd))))
    have HCV := Lib.hid (fun w' => civil_any n w' h1 h2)
    clear ey em ed hok hn
    go_enter Tryz.func55, Tryz.ntmps55
    go_wp2_with fail
    refine (HCV.out _).mono ?_
    rw [HY.out.1, HY.out.2.1, HY.out.2.2]
    rintro e w1 ⟨rfl, rfl⟩
    have hb0 := HBA.out (.cells #[.int .i64 6, .int .i64 n, .string s, .slice A ([] : List Int).length c] 24 (0, 0))
    go_wp2_with fail
    refine (padded_any y 4 _ (by omega) (by omega) (by omega) (HT.out.below (HBA.out _))).mono ?_
    rintro e w1 ⟨⟨t1, rfl, ht1⟩, hb1⟩
    have hbw := (HBA.out _).trans (hb1.mono (HBA.out _).size)
    have HT1 := Lib.hid ht1
    have hl1 : t1.size ≤ 4 := by rw [dsize ht1, HL.out.1]; exact Nat.le_refl _
    clear ht1 hb1 hb0
    go_wp2_with fail
    refine (padded_any m 2 w1 (by omega) (by omega) (by omega) (HT.out.below hbw)).mono ?_
    rintro e w2 ⟨⟨t2, rfl, ht2⟩, hb2⟩
    have hbw := hbw.trans (hb2.mono hbw.size)
    have HT2 := Lib.hid ht2
    have hl2 : t2.size ≤ 2 := by rw [dsize ht2, HL.out.2.1]; exact Nat.le_refl _
    clear ht2 hb2
    go_wp2_with fail
    refine (padded_any d 2 w2 (by omega) (by omega) (by omega) (HT.out.below hbw)).mono ?_
    rintro e w3 ⟨⟨t3, rfl, ht3⟩, hb3⟩
    have hbw := hbw.trans (hb3.mono hbw.size)
    have HT3 := Lib.hid ht3
    have hl3 : t3.size ≤ 2 := by rw [dsize ht3, HL.out.2.2]; exact Nat.le_refl _
    clear ht3 hb3
    go_wp2
    go_ret
    refine ⟨⟨_, rfl, ?_⟩, hbw⟩
    show _ = dayT n
    unfold dayT
    rw [HY.out.1, HY.out.2.1, HY.out.2.2]
    simp only [toList_app, HT1.out, HT2.out, HT3.out]
    rfl
  | bool h1 h2 =>
    obtain rfl | rfl : n = 0 ∨ n = 1 := by omega
    all_goals
      go_enter Tryz.func55, Tryz.ntmps55
      go_wp2_with fail
      refine (Tryz.strconv_FormatBool _ _).mono ?_
      rintro e w1 ⟨rfl, rfl⟩
      go_wp2
      go_ret
      exact ⟨⟨_, rfl, by decide +kernel⟩, HBA.out _⟩
end Go.Proofs.YtcmccjcelchlhaaGreatDoor
namespace Go.Proofs.YtcmccjcelchlhaaGreatDoor
open Go.RowKit Dig Vtx

theorem snd_of {x : Val} (h : checkV x = 0) : Snd x.k x.n x.s.data.toList x.l ∧ x.l.length ≤ 40 ∧ x.s.size ≤ 200 := by
  unfold checkV at h
  by_cases h1 : outB x.k 0 7 = true
  · rw [if_pos h1] at h; cases h
  rw [if_neg h1] at h
  by_cases h2 : unusedB x = true
  · rw [if_pos h2] at h; cases h
  rw [if_neg h2] at h
  by_cases h3 : outB x.n (loOf x.k) (hiOf x.k) = true
  · rw [if_pos h3] at h; cases h
  rw [if_neg h3] at h
  by_cases h4 : 200 < x.s.size ∨ 40 < x.l.length
  · rw [if_pos h4] at h; cases h
  rw [if_neg h4] at h
  by_cases h5 : badStr x.s = true
  · rw [if_pos h5] at h; cases h
  rw [if_neg h5] at h
  by_cases h6 : x.l.any badCode = true
  · rw [if_pos h6] at h; cases h
  clear h h5
  have hc : ∀ c ∈ x.l, 1 ≤ c ∧ c ≤ 999 := by
    intro c hc
    rw [Bool.not_eq_true, List.any_eq_false] at h6
    have := h6 c hc
    simp only [badCode, outB, Bool.or_eq_true, decide_eq_true_eq, not_or] at this
    omega
  simp only [not_or] at h4
  refine ⟨?_, by omega, by omega⟩
  simp only [outB, Bool.or_eq_true, decide_eq_true_eq, not_or] at h1 h3
  obtain ⟨k, n, s, l⟩ := x
  simp only [unusedB] at h2
  simp only at h1 h3 hc
  rw [ByteArray.toList_eq] at h2
  show Snd k n s.data.toList l
  generalize s.data.toList = S at h2
  clear h4 h6
  have hk : k = 0 ∨ k = 1 ∨ k = 2 ∨ k = 3 ∨ k = 4 ∨ k = 5 ∨ k = 6 ∨ k = 7 := by omega
  rcases hk with rfl | rfl | rfl | rfl | rfl | rfl | rfl | rfl
  all_goals simp [usesB] at h2
  · obtain ⟨rfl, rfl, rfl⟩ := h2
    exact .none_
  · obtain ⟨rfl, rfl⟩ := h2
    simp [loOf, hiOf] at h3
    exact .word (by omega) (by omega)
  · obtain ⟨rfl, rfl⟩ := h2
    simp [loOf, hiOf] at h3
    exact .num (by omega) (by omega)
  · obtain ⟨rfl, rfl⟩ := h2
    exact .text _
  · obtain ⟨rfl, rfl⟩ := h2
    simp [loOf, hiOf] at h3
    exact .code (by omega) (by omega)
  · obtain ⟨rfl, rfl⟩ := h2
    exact .set hc
  · obtain ⟨rfl, rfl⟩ := h2
    simp [loOf, hiOf] at h3
    exact .day (by omega) (by omega)
  · obtain ⟨rfl, rfl⟩ := h2
    simp [loOf, hiOf] at h3
    exact .bool (by omega) (by omega)
end Go.Proofs.YtcmccjcelchlhaaGreatDoor
namespace Go.Proofs.YtcmccjcelchlhaaGreatDoor
open Vtx

theorem itoa_le {n : Int} (h1 : -9223372036854775808 ≤ n) (h2 : n ≤ 9223372036854775807) : (Lib.itoa n).length ≤ 21 := Lib.itoa_length_le n h1 h2
theorem padT_le (w : Nat) {n : Int} (h1 : -9223372036854775808 ≤ n) (h2 : n ≤ 9223372036854775807) : (padT w n).length ≤ w + 21 := by
  unfold padT
  have := itoa_le h1 h2
  rw [List.length_append]
  simp only [Dig.zeros, List.length_replicate]
  omega
theorem trim_le (l : List UInt8) (c : UInt8) : (Lib.trimRightB l c).length ≤ l.length := by
  unfold Lib.trimRightB
  rw [List.length_reverse]
  have := (List.dropWhile_suffix (p := (· == c)) (l := l.reverse)).length_le
  rwa [List.length_reverse] at this
theorem numT_le {n : Int} (h1 : -999999999999999 ≤ n) (h2 : n ≤ 999999999999999) : (numT n).length ≤ 100 := by
  have ha : 0 ≤ absI n ∧ absI n ≤ 999999999999999 := by unfold absI; split <;> omega
  have e1 := itoa_le (n := absI n / 10000) (by omega) (by omega)
  have e2 : (fracT (absI n % 10000)).length ≤ 25 := Nat.le_trans (trim_le _ _) (padT_le 4 (by omega) (by omega))
  unfold numT
  rw [List.length_append, List.length_append]
  have e3 : (if n < 0 then ([45] : List UInt8) else []).length ≤ 1 := by split <;> simp
  have e4 : (if fracT (absI n % 10000) = [] then [] else 46 :: fracT (absI n % 10000)).length ≤ 26 := by
    split
    · simp
    · rw [List.length_cons]; omega
  omega
theorem show_le {v : Val} (h : checkV v = 0) : (showT v.k v.n v.s.data.toList v.l).length ≤ 500 := by
  obtain ⟨hq, hl, hs⟩ := snd_of h
  have hs' : v.s.data.toList.length ≤ 200 := by simpa using hs
  generalize v.s.data.toList = S at hq hs'
  generalize v.k = k at hq
  generalize v.n = n at hq
  generalize v.l = l at hq hl
  cases hq with
  | none_ => decide
  | word h1 h2 =>
    show (wordT n).length ≤ 500
    unfold wordT
    split
    · decide
    split <;> decide
  | num h1 h2 => exact Nat.le_trans (numT_le h1 h2) (by decide)
  | text s =>
    show (textT S).length ≤ 500
    unfold textT
    have := esc_len S
    rw [List.length_append, List.length_cons, List.length_singleton]
    omega
  | code h1 h2 =>
    show (codeT n).length ≤ 500
    unfold codeT
    have := itoa_le (n := n) (by omega) (by omega)
    rw [List.length_cons]
    omega
  | set hc =>
    show (setT l).length ≤ 500
    unfold setT
    have := joinT_len l hc
    rw [List.length_append, List.length_cons, List.length_singleton]
    omega
  | day h1 h2 =>
    show (dayT n).length ≤ 500
    have hcs := Cal.civ_spec h1 h2
    obtain ⟨b1, b2⟩ := Cal.range_year h1 h2 hcs.year.1 hcs.year.2
    have hdb := Cal.dim_bd (Cal.cy n) (Cal.cm n)
    have b3 := hcs.m1
    have b4 := hcs.m2
    have b5 := hcs.d1
    have b6 := hcs.d2
    have e1 := padT_le 4 (n := Cal.cy n) (by omega) (by omega)
    have e2 := padT_le 2 (n := Cal.cm n) (by omega) (by omega)
    have e3 := padT_le 2 (n := Cal.cd n) (by omega) (by omega)
    unfold dayT
    simp only [List.length_append, List.length_cons, List.length_nil]
    omega
  | bool h1 =>
    show (if n = 1 then trueT else falseT).length ≤ 500
    split <;> decide
theorem ite_len {p : Prop} [Decidable p] {a b : List UInt8} {k : Nat} (h1 : a.length ≤ k) (h2 : b.length ≤ k) : (if p then a else b).length ≤ k := by split <;> assumption
theorem infix_le (op : Int) : (infixT op).length ≤ 3 := by
  unfold infixT
  iterate 13 refine ite_len (by decide) ?_
  decide
theorem func_le (op : Int) : (funcT op).length ≤ 8 := by
  unfold funcT
  split
  · rename_i p hp
    have : ∀ p ∈ funcsL, p.2.length ≤ 8 := by decide
    exact this p (List.mem_of_find?_eq_some hp)
  · decide
theorem over_le (op : Int) : (overT' op).length ≤ 5 := by
  unfold overT'
  rw [List.getD_eq_getElem?_getD]
  rcases h : oversL[op.toNat]? with _ | l
  · decide
  · have : ∀ p ∈ oversL, p.length ≤ 5 := by decide
    exact this l (List.mem_of_getElem? h)
theorem par_le (b : Bool) (t : List UInt8) : (parT b t).length ≤ t.length + 2 := by
  unfold parT
  split
  · simp
  · omega
theorem ins_le (least : Int) : ∀ {ar : List Ex}, (∀ a ∈ ar, a.text.length + 100 ≤ 1000 * a.parts) → ((insL least ar).map List.length).sum + 98 * ar.length ≤ 1000 * partsL ar ∧ ∀ i, ((insL least ar).getD i []).length ≤ 1000 * partsL ar + 2
  | [], _ => by simp [insL, partsL]
  | a :: r, h => by
    have ih := ins_le least (fun b hb => h b (List.mem_cons_of_mem _ hb)) (ar := r)
    have ha := h a (List.mem_cons_self ..)
    have hp := par_le (decide (rowN a < least)) a.text
    rw [insL, partsL]
    refine ⟨by simp only [List.map_cons, List.sum_cons, List.length_cons]; omega, fun i => ?_⟩
    cases i with
    | zero => simp only [List.getD_cons_zero]; omega
    | succ i =>
      have := ih.2 i
      simp only [List.getD_cons_succ]
      omega
theorem ins_len (least : Int) (ar : List Ex) : (insL least ar).length = ar.length := by rw [insL_map]; simp
theorem name_le {s : ByteArray} (h : isNameF s.data.toList = true) : s.data.toList.length ≤ 16 := by
  unfold isNameF at h
  simp only [Bool.and_eq_true, decide_eq_true_iff] at h
  exact h.1.1.1.2
theorem part_name {e : Ex} (h : partF e = 0) (hk : e.k = 2 ∨ e.k = 3 ∨ e.k = 5) : isNameF e.nm.data.toList = true := by
  unfold partF partB at h
  by_cases c1 : outB e.k 1 5 = true
  · rw [if_pos c1] at h; exact absurd h (by decide)
  rw [if_neg c1, if_neg (by omega)] at h
  by_cases c3 : e.k = 5 ∧ outB e.op 1 6 = true
  · rw [if_pos c3] at h; exact absurd h (by decide)
  rw [if_neg c3] at h
  by_cases c4 : extraB e.k e.op e.nm e.v e.ar.length = true
  · rw [if_pos c4] at h; exact absurd h (by decide)
  rw [if_neg c4, if_neg (by omega), if_neg (by omega)] at h
  by_cases c5 : isNameF e.nm.data.toList = true
  · exact c5
  · rw [if_neg c5] at h; exact absurd h (by decide)
theorem part_const' {e : Ex} (h : partF e = 0) (hk : e.k = 1) : checkV e.v = 0 := by
  unfold partF partB at h
  by_cases c1 : outB e.k 1 5 = true
  · rw [if_pos c1] at h; exact absurd h (by decide)
  rw [if_neg c1, if_neg (by omega), if_neg (by omega)] at h
  by_cases c4 : extraB e.k e.op e.nm e.v e.ar.length = true
  · rw [if_pos c4] at h; exact absurd h (by decide)
  rw [if_neg c4, if_pos hk] at h
  split at h
  · exact absurd h (by decide)
  · exact h
/-- the length of a text -/
theorem text_le (e : Ex) : e.fault = 0 → e.text.length + 100 ≤ 1000 * e.parts := by
  induction e using Ex.ind with
  | h e ih =>
    intro hf
    have hP := fault_part hf
    have P := partOk hP
    have hA := fault_arg hf
    have hI := fun a h => ih a h (hA a h)
    rw [text_eq, parts_eq]
    by_cases k1 : e.k = 1
    · rw [if_pos k1]
      have := show_le (part_const' hP k1)
      omega
    rw [if_neg k1]
    by_cases k2 : e.k = 2
    · rw [if_pos k2]
      have := name_le (part_name hP (.inl k2))
      omega
    rw [if_neg k2]
    by_cases k3 : e.k = 3
    · rw [if_pos k3]
      have := name_le (part_name hP (.inr (.inl k3)))
      simp only [List.length_append, List.length_cons, List.length_nil]
      omega
    rw [if_neg k3]
    have i0 := ins_le 0 hI
    by_cases k5 : e.k = 5
    · rw [if_pos k5]
      have h1 := name_le (part_name hP (.inr (.inr k5)))
      have h2 := over_le e.op
      have h3 := i0.2 0
      simp only [List.length_append, List.length_cons, List.length_nil]
      omega
    rw [if_neg k5]
    have hlen := len_parts e.ar
    split
    · have h1 := (ins_le 2 hI).1
      have h2 := join_len (insL 2 e.ar) [32, 111, 114, 32]
      rw [ins_len] at h2
      simp only [List.length_cons, List.length_nil] at h2
      omega
    split
    · have h1 := (ins_le 3 hI).1
      have h2 := join_len (insL 3 e.ar) [32, 97, 110, 100, 32]
      rw [ins_len] at h2
      simp only [List.length_cons, List.length_nil] at h2
      omega
    have h3 := (ins_le 3 hI).2
    have h5 := (ins_le 5 hI).2
    have h6 := (ins_le 6 hI).2
    have h7 := (ins_le 7 hI).2
    have hin := infix_le e.op
    have two : ∀ (l1 l2 : Int), ((insL l1 e.ar).getD 0 []).length + ((insL l2 e.ar).getD 1 []).length ≤ 1000 * partsL e.ar + 4 := by
      intro l1 l2
      have hz : ∀ (l : Int), ∀ i, ∀ a, e.ar[i]? = some a → ((insL l e.ar).getD i []).length ≤ 1000 * a.parts + 2 := fun l i a hi => by
        rw [insL_map, List.getD_eq_getElem?_getD, List.getElem?_map, hi]
        have := par_le (decide (rowN a < l)) a.text
        have := hI a (List.mem_of_getElem? hi)
        simp only [Option.map_some, Option.getD_some]
        omega
      have hn : ∀ (l : Int), ∀ i, e.ar[i]? = none → ((insL l e.ar).getD i []).length = 0 := fun l i hi => by
        rw [insL_map, List.getD_eq_getElem?_getD, List.getElem?_map, hi]; rfl
      match hr : e.ar with
      | [] => simp [insL]
      | [a] =>
        have e1 := hz l1 0 a (by rw [hr]; rfl)
        have e2 := hn l2 1 (by rw [hr]; rfl)
        rw [hr] at e1 e2
        simp only [partsL]
        omega
      | a :: b :: r =>
        have e1 := hz l1 0 a (by rw [hr]; rfl)
        have e2 := hz l2 1 b (by rw [hr]; rfl)
        rw [hr] at e1 e2
        simp only [partsL]
        omega
    split
    · have := h3 0
      simp only [List.length_append, List.length_cons, List.length_nil]
      omega
    split
    · have := two 5 5
      simp only [List.length_append, List.length_cons, List.length_nil]
      omega
    split
    · have := two 5 6
      simp only [List.length_append, List.length_cons, List.length_nil]
      omega
    split
    · have := two 6 7
      simp only [List.length_append, List.length_cons, List.length_nil]
      omega
    split
    · split
      · have := i0.2 0
        simp only [List.length_append, List.length_cons, List.length_nil]
        omega
      · have := h7 0
        simp only [List.length_append, List.length_cons, List.length_nil]
        omega
    · have h1 := (ins_le 1 hI).1
      have h2 := join_len (insL 1 e.ar) [44, 32]
      have h3 := func_le e.op
      rw [ins_len] at h2
      simp only [List.length_append, List.length_cons, List.length_nil] at *
      omega
end Go.Proofs.YtcmccjcelchlhaaGreatDoor
