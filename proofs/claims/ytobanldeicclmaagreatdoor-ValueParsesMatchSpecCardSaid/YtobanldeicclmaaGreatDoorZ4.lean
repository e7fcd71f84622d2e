/- Lemmas for the claim: walks and plain laws. -/
import Derived.Test.YtobanldeicclmaaGreatDoorZSh
import Derived.Test.YtobanldeicclmaaGreatDoorZ1
import Derived.Test.YtobanldeicclmaaGreatDoorZ3
import Derived.Lib.AppendIntMem
import Derived.Outline
set_option maxHeartbeats 2000000
set_option maxRecDepth 100000
namespace Go.Proofs.YtobanldeicclmaaGreatDoor
open Go.RowKit Dig Vtx
theorem nV {t : ByteArray} {l : List UInt8} (h : t.data.toList = l) : t = ⟨l.toArray⟩ := by subst h; rfl
theorem fB {t : ByteArray} {l : List UInt8} (h : t.data.toList = l) : t.size = l.length := by rw [← h]; rfl
theorem aC (a b : ByteArray) : (a ++ b).data.toList = a.data.toList ++ b.data.toList := by rw [ByteArray.data_append, Array.toList_append]
def rX (l : List UInt8) : Value := .tuple #[.int .i64 ((dN l).1 : Nat), .bool (dN l).2]
theorem ER {l : List UInt8} (h : l = [] ∨ 15 < l.length) : rX l = .tuple #[.int .i64 0, .bool false] := by unfold rX dN; rw [if_pos h]; rfl
theorem Az {l : List UInt8} (h : l.all bI = false) : rX l = .tuple #[.int .i64 0, .bool false] := by
 unfold rX dN
 split
 ·
  rfl
 ·
  rw [h]; rfl
theorem OM {l : List UInt8} (h0 : l ≠ []) (h1 : l.length ≤ 15) (h : l.all bI = true) : rX l = .tuple #[.int .i64 (dC l : Nat), .bool true] := by
 unfold rX dN
 rw [if_neg (by simp [h0]; omega), if_pos h]
theorem ES : ∀ (l : List UInt8), l.all bI = true → dC l < 10 ^ l.length := by
 intro l
 induction l with
 | nil => intro _; decide
 | cons b r ih =>
  intro h
  rw [List.all_cons, Bool.and_eq_true] at h
  have := ih h.2
  have hb := h.1
  simp only [bI, Bool.and_eq_true, decide_eq_true_eq] at hb
  rw [ql, List.length_cons, Nat.pow_succ]
  have : (b.toNat - 48) * 10 ^ r.length ≤ 9 * 10 ^ r.length := Nat.mul_le_mul_right _ (by omega)
  omega
theorem VE {s : ByteArray} {k : Nat} (h : k < s.size) : ∃ h' : k < s.data.toList.length, s.data.toList[k] = s[k] := ⟨by simpa using h, rfl⟩
theorem nJ (s : ByteArray) (w : World) :
  Calls Tryz.prog 187 #[.string s] w fun e w' => e = .returned (rX s.data.toList) ∧ w = w' := by
 by_cases h0 : s = ⟨#[]⟩
 ·
  subst h0
  go_enter Tryz.func187, Tryz.ntmps187
  go_wp2
  go_ret2
  exact ⟨eP (ER (.inl rfl)).symm, rfl⟩
 have hne : s.data.toList ≠ [] := fun e => h0 (nV e)
 have se : s.toList.isEmpty = false := by rw [ByteArray.toList_eq]; simpa using hne
 have hsl : s.data.toList.length = s.size := rfl
 by_cases h1 : 15 < s.size
 ·
  have HE := qh (ER (l := s.data.toList) (.inr (by rw [hsl]; exact h1)))
  clear hne hsl h0
  go_enter Tryz.func187, Tryz.ntmps187
  go_wp2
  go_ret2
  exact ⟨eP HE.out.symm, rfl⟩
 have hs : s.size ≤ 15 := by omega
 have HNE := qh hne
 have QV := qh hsl
 clear hne hsl h0 h1
 go_enter Tryz.func187, Tryz.ntmps187
 go_wp2
 go_loop [4, 5] (fun n i => ∃ k v : Nat, k ≤ s.size ∧ i = .int .i64 (k : Int) ∧ n = .int .i64 (v : Int) ∧ v ≤ 1000000000000000 ∧ Hid (v = dC (s.data.toList.take k) ∧ (s.data.toList.take k).all bI = true)) (fun _ i => s.size - (intOf i).toNat)
 case atStart => exact ⟨0, 0, Nat.zero_le _, rfl, rfl, by omega, qh ⟨rfl, rfl⟩⟩
 case round =>
  obtain ⟨k, v, hk, rfl, rfl, hv, HD⟩ := hrel
  by_cases hlt : k < s.size
  ·
   obtain ⟨h', hg⟩ := VE hlt
   obtain ⟨b, hb⟩ := ae (s[k])
   have HB := qh hb
   have lh := qh (show s.data.toList.take (k + 1) = s.data.toList.take k ++ [b] by rw [List.take_succ_eq_append_getElem h', hg, hb])
   have ZV := qh (show bI b = false → s.data.toList.all bI = false from fun h => by
    rw [Bool.eq_false_iff]
    intro e
    rw [List.all_eq_true] at e
    have := e s.data.toList[k] (List.getElem_mem h')
    rw [hg, hb, h] at this
    cases this)
   clear hg
   by_cases h1 : ((s[k].toNat : Nat) : Int) < 48
   ·
    have HF := qh (Az (ZV.out (by rw [← HB.out]; unfold bI; simp; omega)))
    clear hb
    go_wp2
    go_ret2
    exact ⟨eP HF.out.symm, rfl⟩
   ·
    by_cases h2 : 57 < ((s[k].toNat : Nat) : Int)
    ·
     have HF := qh (Az (ZV.out (by rw [← HB.out]; unfold bI; simp; omega)))
     clear hb
     go_wp2
     go_ret2
     exact ⟨eP HF.out.symm, rfl⟩
    ·
     have hda : (s.data.toList.take (k + 1)).all bI = true := by
      rw [lh.out, List.all_append, HD.out.2, List.all_cons, ← HB.out]
      unfold bI
      simp
      omega
     have hdv : v * 10 + (s[k].toNat - 48) = dC (s.data.toList.take (k + 1)) := by rw [lh.out, zf, ← HD.out.1, ← HB.out]
     have hbd := ES _ hda
     have hle : dC (s.data.toList.take (k + 1)) ≤ 1000000000000000 := by
      have : 10 ^ (s.data.toList.take (k + 1)).length ≤ 10 ^ 15 := Nat.pow_le_pow_right (by omega) (by rw [List.length_take, QV.out]; omega)
      omega
     rw [← hdv] at hle
     have HN := qh (And.intro hdv hda)
     have hge : 48 ≤ s[k].toNat := by omega
     clear hb hda hdv hbd
     go_wp2
     go_round
     case rel => exact ⟨k + 1, v * 10 + (s[k].toNat - 48), by omega, by go_num, by first | go_num | (congr 1; omega), hle, HN⟩
     case measure => simp [intOf]; omega
  ·
   have HA := qh (show rX s.data.toList = .tuple #[.int .i64 (v : Nat), .bool true] by
    have h := HD.out
    rw [List.take_of_length_le (by rw [QV.out]; omega)] at h
    rw [OM HNE.out (by rw [QV.out]; omega) h.2, h.1])
   go_wp2
   go_ret2
   exact ⟨eP HA.out.symm, rfl⟩
abbrev Tab (w : World) : Prop := Lib.TabIs Tryz.prog w "internal/strconv.uint64pow10" .u64 Lib.pow10Tab
theorem Tab.below {w w' : World} (h : Tab w) (hb : Below w.heap.size w w') : Tab w' := by
 unfold Tab Lib.TabIs World.var? at *
 cases hg : Tryz.prog.globalNamed "internal/strconv.uint64pow10" with
 | none => rw [hg] at h; cases h
 | some g =>
  rw [hg] at h
  simp only [Option.bind_some] at h ⊢
  have hlt : g < w.heap.size := by
   rcases Nat.lt_or_ge g w.heap.size with h' | h'
   ·
    exact h'
   ·
    rw [Array.getElem?_eq_none h'] at h; cases h
  rw [hb.block g hlt]
  exact h
theorem mO (n : Int) (w : World) (h0 : -9223372036854775808 ≤ n) (h1 : n ≤ 9223372036854775807) (htab : Tab w) :
  Calls Tryz.prog 44 #[.int .i64 n] w fun e w' => (∃ t : ByteArray, e = .returned (.string t) ∧ t.data.toList = Lib.itoa n) ∧ Below w.heap.size w w' :=
 (Tryz.strconv_Itoa n h0 h1 w htab).mono fun _ _ ⟨he, _, _, hw⟩ => ⟨⟨_, he, rfl⟩, hw ▸ Lib.below_grow _ w (Nat.le_refl _) _ _⟩
def strLen (v : Value) : Nat := match v with
 | .string t => t.size
 | _ => 0
theorem rY (n : Int) (W : Nat) (w : World) (h0 : 0 ≤ n) (h1 : n ≤ 9223372036854775807) (hW : W ≤ 20) (htab : Tab w) :
  Calls Tryz.prog 47 #[.int .i64 n, .int .i64 (W : Nat)] w fun e w' => (∃ t : ByteArray, e = .returned (.string t) ∧ t.data.toList = iO W n) ∧ Below w.heap.size w w' := by
 have HT := qh htab
 clear htab
 go_enter Tryz.func47, Tryz.ntmps47
 go_wp2_with fail
 refine (mO n w (by omega) h1 HT.out).mono ?_
 rintro e w1 ⟨⟨t0, rfl, ht0⟩, hb1⟩
 obtain ⟨L, hL⟩ := ae ((Lib.itoa n).length)
 have HT0 := qh ht0
 have hLb : L ≤ 20 := by
  obtain ⟨m, rfl⟩ : ∃ m : Nat, n = m := ⟨n.toNat, by omega⟩
  rw [jd] at hL
  have := cO 18 m (by omega)
  omega
 have HL := qh hL
 clear ht0 hL
 go_wp2_with (fail)
 go_loop [5] (fun s => ∃ (t : ByteArray) (k : Nat), s = .string t ∧ Hid (t.data.toList = zeros k ++ Lib.itoa n) ∧ k ≤ W - L) (fun s => W - strLen s)
 case atStart => exact ⟨t0, 0, rfl, qh HT0.out, Nat.zero_le _⟩
 case round =>
  obtain ⟨t, k, rfl, jf, hk⟩ := hrel
  have hsz : t.size = k + L := by
   have : t.data.toList.length = k + L := by rw [jf.out]; simp [zeros, HL.out]
   exact this
  have hs1 : t.size ≤ k + L := by omega
  have hs2 : k + L ≤ t.size := by omega
  clear hsz
  by_cases hlt : t.size < W
  ·
   go_wp2_with (fail)
   go_round
   case rel =>
    refine ⟨⟨#[48]⟩ ++ t, k + 1, rfl, qh ?_, by omega⟩
    rw [aC, jf.out, show zeros (k + 1) = 48 :: zeros k from rfl]
    rfl
   case measure =>
    have : (⟨#[48]⟩ ++ t : ByteArray).size = t.size + 1 := by rw [ByteArray.size_append]; show 1 + t.size = _; omega
    simp [strLen, this]
    omega
  ·
   have HTP := qh (show t.data.toList = iO W n by
    rw [jf.out]
    unfold iO
    rw [HL.out, show k = W - L by omega])
   clear jf HT0 HL
   go_wp2
   go_ret
   exact ⟨⟨_, rfl, HTP.out⟩, hb1⟩
theorem zi (t : ByteArray) (w : World) (h : t.size ≤ 100) :
  Calls Tryz.prog 67 #[.string t, .string ⟨#[48]⟩] w fun e w' => (∃ u : ByteArray, e = .returned (.string u) ∧ u.data.toList = Lib.trimRightB t.data.toList 48) ∧ w = w' :=
 (Tryz.strings_TrimRight_one t 48 (by decide) w (by omega)).mono fun _ _ ⟨he, hw⟩ => ⟨⟨_, he, rfl⟩, hw.symm⟩
theorem AA (n : Int) (w : World) (h1 : -999999999999999 ≤ n) (h2 : n ≤ 999999999999999) (htab : Tab w) :
  Calls Tryz.prog 42 #[.int .i64 n] w fun e w' => (∃ t : ByteArray, e = .returned (.string t) ∧ t.data.toList = mJ n) ∧ Below w.heap.size w w' := by
 have HT := qh htab
 clear htab
 obtain ⟨a, ha⟩ := ae (mZ n)
 have hab : 0 ≤ a ∧ a ≤ 999999999999999 := by rw [← ha]; unfold mZ; split <;> omega
 obtain ⟨ha0, ha1⟩ := hab
 obtain ⟨F, hF⟩ := ae (a / 10000)
 obtain ⟨M, hM⟩ := ae (a % 10000)
 have hF0 : 0 ≤ F := by omega
 have hF1 : F ≤ 99999999999 := by omega
 have hM0 : 0 ≤ M := by omega
 have hM1 : M < 10000 := by omega
 have HN := qh (show mJ n = (if n < 0 then [45] else []) ++ Lib.itoa F ++ (if fG M = [] then [] else 46 :: fG M) by unfold mJ; rw [ha, hF, hM])
 have HI := qh (show (Lib.itoa F).length ≤ 11 by
  obtain ⟨m, rfl⟩ : ∃ m : Nat, F = m := ⟨F.toNat, by omega⟩
  rw [jd]
  exact cO 10 m (by omega))
 have Si := qh (show (iO 4 M).length = 4 ∧ (fG M).length ≤ 4 by
  obtain ⟨m, rfl⟩ : ∃ m : Nat, M = m := ⟨M.toNat, by omega⟩
  exact ⟨jG (cO 3 m (by omega)), (uD (by omega)).2⟩)
 have HA := qh ha
 have Xw := qh hF
 have HMD := qh hM
 clear ha hF hM
 go_enter Tryz.func42, Tryz.ntmps42
 go_upto_if 7 with (fail)
 go_cut [0, 3] (fun v s wx => v = .int .i64 a ∧ (∃ sg : ByteArray, s = .string sg ∧ Hid (sg.data.toList = if n < 0 then [45] else []) ∧ sg.size ≤ 1) ∧ wx = w)
 case first =>
  by_cases hn : n < 0
  ·
   have hx := qh (show a = -n by rw [← HA.out]; unfold mZ; rw [if_pos hn])
   go_wp2_with (fail)
   go_meet
   exact ⟨by rw [hx.out], ⟨_, rfl, qh (by rw [if_pos (by omega)]), by decide⟩, rfl⟩
  ·
   have hx := qh (show a = n by rw [← HA.out]; unfold mZ; rw [if_neg hn])
   go_wp2_with (fail)
   go_meet
   exact ⟨by rw [hx.out], ⟨_, rfl, qh (by rw [if_neg (by omega)]), by decide⟩, rfl⟩
 case rest =>
 obtain ⟨rfl, ⟨sg, rfl, HS, hsg⟩, rfl⟩ := hcut
 have eF : a / 10000 = F := Xw.out
 have eM : a % 10000 = M := HMD.out
 go_wp2_with fail
 refine (mO F _ (by omega) (by omega) HT.out).mono ?_
 rintro e w1 ⟨⟨tf, rfl, htf⟩, hb1⟩
 have htl : tf.size ≤ 11 := by rw [fB htf]; exact HI.out
 have wU := qh htf
 have HT1 := qh (HT.out.below hb1)
 clear htf
 go_wp2_with fail
 refine (rY M 4 w1 hM0 (by omega) (by omega) HT1.out).mono ?_
 rintro e w2 ⟨⟨tm, rfl, Yb⟩, hb2⟩
 have html : tm.size ≤ 4 := by rw [fB Yb, Si.out.1]; exact Nat.le_refl _
 have DJ := qh Yb
 have hbw := hb1.trans (hb2.mono hb1.size)
 clear Yb hb1 hb2
 go_wp2_with fail
 refine (zi tm w2 (by omega)).mono ?_
 rintro e w3 ⟨⟨u, rfl, hu⟩, rfl⟩
 rw [DJ.out] at hu
 have wV : u.size ≤ 4 := by rw [fB hu]; exact Si.out.2
 have HU := qh (show u.data.toList = fG M from hu)
 clear hu
 by_cases h0 : u = ⟨#[]⟩
 ·
  have HE := qh (show fG M = [] by rw [← HU.out, h0])
  subst h0
  go_wp2
  go_ret
  exact ⟨⟨_, rfl, by rw [HN.out, aC, HS.out, wU.out, if_pos HE.out, List.append_nil]⟩, hbw⟩
 ·
  have hne : u.data.toList ≠ [] := fun e => h0 (nV e)
  have se : u.toList.isEmpty = false := by rw [ByteArray.toList_eq]; simpa using hne
  have HE := qh (show fG M ≠ [] by rw [← HU.out]; exact hne)
  clear hne h0
  go_wp2
  go_ret
  exact ⟨⟨_, rfl, by rw [HN.out, aC, aC, aC, HS.out, wU.out, if_neg HE.out, HU.out]; simp⟩, hbw⟩
def Mx (w : World) : Prop := ∃ m, w.cell? ⟨0, 0, none⟩ = some (.int .i64 m)
theorem Mx.below {w w' : World} (h : Mx w) (hb : Below w.heap.size w w') : Mx w' := by
 obtain ⟨m, hm⟩ := h
 exact ⟨m, Below.cell_of hb hm⟩
theorem vF (s p : ByteArray) (w : World) :
  Calls Tryz.prog 196 #[.string s, .string p] w fun e w' => (∃ t : ByteArray, e = .returned (.string t) ∧ t.data.toList = Lib.trimPrefix s.data.toList p.data.toList) ∧ w = w' :=
 (Tryz.strings_TrimPrefix s p w).mono fun _ _ ⟨he, hw⟩ => ⟨⟨_, he, rfl⟩, hw.symm⟩
theorem NG (s : ByteArray) (c : UInt8) (w : World) (hs : s.size ≤ 2000000) (hm : Mx w) :
  Calls Tryz.prog 204 #[.string s, .string ⟨#[c]⟩] w fun e w' => (∃ a b : ByteArray, ∃ f : Bool, e = .returned (.tuple #[.string a, .string b, .bool f]) ∧ a.data.toList = (Lib.cut s.data.toList [c]).1 ∧ b.data.toList = (Lib.cut s.data.toList [c]).2.1) ∧ Below w.heap.size w w' := by
 obtain ⟨m, hm⟩ := hm
 exact (Tryz.strings_Cut s ⟨#[c]⟩ m w (by omega) hm).mono fun _ _ ⟨he, k, hw⟩ => ⟨⟨_, _, _, he, rfl, rfl⟩, hw ▸ (Below.refl _ _).drewN k⟩
theorem vG (s : ByteArray) (c : UInt8) (w : World) (hs : s.size ≤ 2000000) (hm : Mx w) :
  Calls Tryz.prog 194 #[.string s, .string ⟨#[c]⟩] w fun e w' => ∃ ps : List ByteArray, e = .returned (.slice (some ⟨w.heap.size, 0, none⟩) ps.length ps.length) ∧ w' = w.alloc (.cells (ps.map Value.string).toArray 9) ∧ ps.map (·.data.toList) = Lib.split s.data.toList [c] ∧ ps.length ≤ s.size + 1 := by
 obtain ⟨m, hm⟩ := hm
 refine (Tryz.strings_Split s ⟨#[c]⟩ m w (by omega) hm (Nat.le_refl 1)).mono fun _ _ ⟨he, hw⟩ => ⟨Lib.splitB ⟨#[c]⟩ 0 (Lib.countB s ⟨#[c]⟩) s, ?_, hw, Lib.splitB_data _ _ _ _, ?_⟩
 ·
  rw [he, Lib.splitB_all ⟨#[c]⟩ (Nat.le_refl 1) 0 _ s rfl]
 ·
  rw [Lib.splitB_all ⟨#[c]⟩ (Nat.le_refl 1) 0 _ s rfl]
  have := Lib.countB_le ⟨#[c]⟩ (Nat.le_refl 1) s.size s (Nat.le_refl _)
  omega
theorem kJ (l : List UInt8) : ∃ (a : Nat) (ok : Bool), dN l = (a, ok) ∧ rX l = .tuple #[.int .i64 (a : Nat), .bool ok] ∧ a ≤ 1000000000000000 := by
 have hb : (dN l).1 ≤ 1000000000000000 := by
  unfold dN
  split
  ·
   exact Nat.zero_le _
  ·
   rename_i h
   split
   ·
    rename_i hd
    have := ES l hd
    have : 10 ^ l.length ≤ 10 ^ 15 := Nat.pow_le_pow_right (by omega) (by simp only [not_or] at h; omega)
    show dC l ≤ _
    omega
   ·
    exact Nat.zero_le _
 exact ⟨_, _, rfl, rfl, hb⟩
def Gg (k : Int) (o : Option Int) : Value := match o with
 | some n => .tuple #[.agg #[.int .i64 k, .int .i64 n, .string ⟨#[]⟩, .slice none 0 0], .bool true]
 | none => .tuple #[.agg #[.int .i64 0, .int .i64 0, .string ⟨#[]⟩, .slice none 0 0], .bool false]
theorem AB (s : ByteArray) (w : World) (hs : s.size ≤ 2000000) (hm : Mx w) :
  Calls Tryz.prog 190 #[.string s] w fun e w' => e = .returned (Gg 2 (jL s.data.toList)) ∧ Below w.heap.size w w' := by
 have HM := qh hm
 clear hm
 go_enter Tryz.func190, Tryz.ntmps190
 go_wp2_with fail
 obtain ⟨W, hW⟩ := au ((w.alloc (.cells #[.int .i64 0, .int .i64 0, .string ⟨#[]⟩, .slice none 0 0] 24 (0, 0))))
 have hbw : Below w.heap.size w W := by rw [hW]; exact ((Below.refl _ w).alloc (Nat.le_refl _) _)
 have B0 : af W (w.heap.size) 24 #[.int .i64 0, .int .i64 0, .string ⟨#[]⟩, .slice none 0 0] := by
  rw [hW]
  have := af.new w 24 #[.int .i64 0, .int .i64 0, .string ⟨#[]⟩, .slice none 0 0]
  exact this
 have hsz : W.heap.size = w.heap.size + 1 := by rw [hW]; simp
 rw [← hW]
 clear hW hsz
 refine (vF s ⟨#[45]⟩ W).mono ?_
 rintro e w1 ⟨⟨d, rfl, hd⟩, rfl⟩
 have hdl : d.size ≤ s.size := by rw [fB hd]; exact Lib.trimPrefix_le _ _
 have HD := qh hd
 clear hd
 go_wp2_with fail
 refine (NG d 46 W (by omega) (HM.out.below hbw)).mono ?_
 rintro e w1 ⟨⟨fr, pt, fd, rfl, hfr, hpt⟩, hb1⟩
 have hcl : pt.size ≤ d.size := by
  rw [fB hpt]
  unfold Lib.cut
  split
  ·
   simp only [List.length_drop]; show _ ≤ d.data.toList.length; omega
  ·
   simp
 obtain ⟨L, hL⟩ := ae (pt.size)
 have Si := qh hfr
 have NH := qh hpt
 have B0 := B0.below hb1 B0.lt
 have hbw := hbw.trans (hb1.mono hbw.size)
 have HL := qh hL
 have hL1 : L ≤ 2000000 := by omega
 clear hfr hpt hb1 hL hcl
 go_wp2_with (fail)
 go_loop [6] (fun v => ∃ (t : ByteArray) (k : Nat), v = .string t ∧ Hid (t.data.toList = pt.data.toList ++ zeros k) ∧ k ≤ 4 - L) (fun v => 4 - strLen v)
 case atStart => exact ⟨pt, 0, rfl, qh (by simp [zeros]), Nat.zero_le _⟩
 case round =>
  obtain ⟨t, k, rfl, jf, hk⟩ := hrel
  have hsz : t.size = L + k := by
   have : t.data.toList.length = L + k := by rw [jf.out, ← HL.out]; simp [zeros]
   exact this
  have hs1 : t.size ≤ L + k := by omega
  have hs2 : L + k ≤ t.size := by omega
  clear hsz
  by_cases hlt : t.size < 4
  ·
   go_wp2_with (fail)
   go_round
   case rel =>
    refine ⟨t ++ ⟨#[48]⟩, k + 1, rfl, qh ?_, by omega⟩
    rw [aC, jf.out, List.append_assoc]
    unfold zeros
    rw [List.replicate_succ']
   case measure =>
    have : (t ++ ⟨#[48]⟩ : ByteArray).size = t.size + 1 := by rw [ByteArray.size_append]; rfl
    simp [strLen, this]
    omega
  ·
   have HP := qh (show t.data.toList = OG (Lib.cut d.data.toList [46]).2.1 4 by
    rw [jf.out, NH.out]
    unfold OG
    rw [← fB NH.out, HL.out, show k = 4 - L by omega])
   clear jf
   obtain ⟨a, ok1, hw1, hv1, ha⟩ := kJ fr.data.toList
   obtain ⟨b, ok2, hw2, hv2, hb⟩ := kJ t.data.toList
   have HW1 := qh (hw1)
   have HW2 := qh (hw2)
   have Yc := qh hv1
   have ZW := qh hv2
   have HR := qh (show jL s.data.toList = if ok1 = true ∧ ok2 = true ∧ t.size ≤ 4 ∧ a ≤ 99999999999 then
     some (if d.size < s.size then -((a * 10000 + b : Nat) : Int) else ((a * 10000 + b : Nat) : Int)) else none by
    unfold jL
    simp only []
    rw [← show d.data.toList = Lib.trimPrefix s.data.toList [45] from HD.out, ← HP.out, ← Si.out, hw1, hw2]
    rfl)
   clear hw1 hw2 hv1 hv2 HD Si NH HP HL hs1 hs2 hk
   go_wp2_with fail
   refine (nJ fr w1).mono ?_
   rw [Yc.out]
   rintro e w2 ⟨rfl, rfl⟩
   go_wp2_with fail
   refine (nJ t w1).mono ?_
   rw [ZW.out]
   rintro e w2 ⟨rfl, rfl⟩
   clear Yc ZW HW1 HW2
   obtain ⟨aQ, eX, aS, eY, aT, fD, aU, fE⟩ := af.z4 B0
   by_cases hcond : ok1 = true ∧ ok2 = true ∧ t.size ≤ 4 ∧ a ≤ 99999999999
   ·
    obtain ⟨rfl, rfl, h4, ha2⟩ := hcond
    by_cases hneg : d.size < s.size
    ·
     have HE := qh (show Gg 2 (jL s.data.toList) = .tuple #[.agg #[.int .i64 2, .int .i64 (-((a : Int) * 10000 + b)), .string ⟨#[]⟩, .slice none 0 0], .bool true] by
      rw [HR.out, if_pos ⟨rfl, rfl, h4, ha2⟩, if_pos hneg]
      show Value.tuple #[.agg #[.int .i64 2, .int .i64 (-((a * 10000 + b : Nat) : Int)), _, _], _] = _
      rw [show ((a * 10000 + b : Nat) : Int) = (a : Int) * 10000 + b by omega])
     go_wp2
     obtain ⟨W9, dI, B9, di⟩ := bG B0 hbw (.int .i64 2) (.int .i64 (-((a : Int) * 10000 + b))) (.string ⟨#[]⟩) (.slice none 0 0)
     rw [← dI]
     clear dI
     obtain ⟨iW, qc1, qc2, qc3⟩ := af.c4 B9
     refine bodyPost_ret (v := .tuple #[.agg #[.int .i64 2, .int .i64 (-((a : Int) * 10000 + b)), .string ⟨#[]⟩, .slice none 0 0], .bool true]) (by simp [results, Tryz.results190, go_sem, iW, qc1, qc2, qc3]) rfl ⟨eP HE.out.symm, di⟩
    ·
     have HE := qh (show Gg 2 (jL s.data.toList) = .tuple #[.agg #[.int .i64 2, .int .i64 ((a : Int) * 10000 + b), .string ⟨#[]⟩, .slice none 0 0], .bool true] by
      rw [HR.out, if_pos ⟨rfl, rfl, h4, ha2⟩, if_neg hneg]
      show Value.tuple #[.agg #[.int .i64 2, .int .i64 ((a * 10000 + b : Nat) : Int), _, _], _] = _
      rw [show ((a * 10000 + b : Nat) : Int) = (a : Int) * 10000 + b by omega])
     go_wp2
     obtain ⟨W9, dI, B9, di⟩ := bG B0 hbw (.int .i64 2) (.int .i64 ((a : Int) * 10000 + b)) (.string ⟨#[]⟩) (.slice none 0 0)
     rw [← dI]
     clear dI
     obtain ⟨iW, qc1, qc2, qc3⟩ := af.c4 B9
     refine bodyPost_ret (v := .tuple #[.agg #[.int .i64 2, .int .i64 ((a : Int) * 10000 + b), .string ⟨#[]⟩, .slice none 0 0], .bool true]) (by simp [results, Tryz.results190, go_sem, iW, qc1, qc2, qc3]) rfl ⟨eP HE.out.symm, di⟩
   ·
    have HE := qh (show Gg 2 (jL s.data.toList) = .tuple #[.agg #[.int .i64 0, .int .i64 0, .string ⟨#[]⟩, .slice none 0 0], .bool false] by rw [HR.out, if_neg hcond]; rfl)
    rcases ok1 with _ | _
    ·
     clear hcond
     go_wp2
     obtain ⟨W9, dI, B9, di⟩ := bG B0 hbw (.int .i64 0) (.int .i64 0) (.string ⟨#[]⟩) (.slice none 0 0)
     rw [← dI]
     clear dI
     obtain ⟨iW, qc1, qc2, qc3⟩ := af.c4 B9
     refine bodyPost_ret (v := .tuple #[.agg #[.int .i64 0, .int .i64 0, .string ⟨#[]⟩, .slice none 0 0], .bool false]) (by simp [results, Tryz.results190, go_sem, iW, qc1, qc2, qc3]) rfl ⟨eP HE.out.symm, di⟩
    rcases ok2 with _ | _
    ·
     clear hcond
     go_wp2
     obtain ⟨W9, dI, B9, di⟩ := bG B0 hbw (.int .i64 0) (.int .i64 0) (.string ⟨#[]⟩) (.slice none 0 0)
     rw [← dI]
     clear dI
     obtain ⟨iW, qc1, qc2, qc3⟩ := af.c4 B9
     refine bodyPost_ret (v := .tuple #[.agg #[.int .i64 0, .int .i64 0, .string ⟨#[]⟩, .slice none 0 0], .bool false]) (by simp [results, Tryz.results190, go_sem, iW, qc1, qc2, qc3]) rfl ⟨eP HE.out.symm, di⟩
    by_cases h4 : t.size ≤ 4
    ·
     have ha2 : 99999999999 < a := by
      rcases Nat.lt_or_ge 99999999999 a with h | h
      ·
       exact h
      ·
       exact absurd ⟨rfl, rfl, h4, h⟩ hcond
     clear hcond
     go_wp2
     obtain ⟨W9, dI, B9, di⟩ := bG B0 hbw (.int .i64 0) (.int .i64 0) (.string ⟨#[]⟩) (.slice none 0 0)
     rw [← dI]
     clear dI
     obtain ⟨iW, qc1, qc2, qc3⟩ := af.c4 B9
     refine bodyPost_ret (v := .tuple #[.agg #[.int .i64 0, .int .i64 0, .string ⟨#[]⟩, .slice none 0 0], .bool false]) (by simp [results, Tryz.results190, go_sem, iW, qc1, qc2, qc3]) rfl ⟨eP HE.out.symm, di⟩
    ·
     clear hcond
     go_wp2
     obtain ⟨W9, dI, B9, di⟩ := bG B0 hbw (.int .i64 0) (.int .i64 0) (.string ⟨#[]⟩) (.slice none 0 0)
     rw [← dI]
     clear dI
     obtain ⟨iW, qc1, qc2, qc3⟩ := af.c4 B9
     refine bodyPost_ret (v := .tuple #[.agg #[.int .i64 0, .int .i64 0, .string ⟨#[]⟩, .slice none 0 0], .bool false]) (by simp [results, Tryz.results190, go_sem, iW, qc1, qc2, qc3]) rfl ⟨eP HE.out.symm, di⟩
theorem Xx : (Tryz.prog.info? 9).map (fun i => (i.zero, i.size, i.bytes)) = some (some (.string ByteArray.empty), 1, 16) := by kernel_rfl
theorem Sj {w : World} {B' n : Nat} {v : Value} {xs : List ByteArray} (h : w.ownsRow B' 9 1 v n (xs.map Value.string)) : n = xs.length ∧ ((v = .slice none 0 0 ∧ xs = []) ∨ ∃ g c, v = .slice (some ⟨g, 0, none⟩) xs.length c ∧ g < w.heap.size ∧ xs.length ≤ c ∧ ∀ j x, xs[j]? = some x → w.cell? ⟨g, 0 + j, none⟩ = some (.string x)) := by
 obtain ⟨h1, h2⟩ := id h
 have hn : n = xs.length := by simp at h1; omega
 subst hn
 refine ⟨rfl, ?_⟩
 rcases h2 with ⟨rfl, e0⟩ | ⟨g, cap, cur, rfl, e1, e2, e3, e4, e5⟩
 ·
  exact .inl ⟨rfl, List.eq_nil_of_length_eq_zero e0⟩
 ·
  refine .inr ⟨g, cap, rfl, ?_, e3, fun j x hx => ?_⟩
  ·
   rcases Nat.lt_or_ge g w.heap.size with h' | h'
   ·
    exact h'
   ·
    rw [Array.getElem?_eq_none h'] at e2; cases e2
  ·
   have := h.cells (g := g) rfl j (.string x) (by simp [hx])
   rwa [Addr.add_lit] at this
theorem IG {B' n : Nat} {v : Value} (xs : List ByteArray) (sep : ByteArray) (w : World) (h : w.ownsRow B' 9 1 v n (xs.map Value.string)) (hN : xs.length ≤ 140737488355328)
  (hlen : (Lib.join (xs.map (·.data.toList)) sep.data.toList).length ≤ 140737488355328) :
  Calls Tryz.prog 49 #[v, .string sep] w fun e w' => (∃ t : ByteArray, e = .returned (.string t) ∧ t.data.toList = Lib.join (xs.map (·.data.toList)) sep.data.toList) ∧ Below w.heap.size w w' := by
 obtain ⟨rfl, ⟨rfl, rfl⟩ | ⟨g, c, rfl, hg, hc, hcells⟩⟩ := Sj h
 ·
  exact (Tryz.strings_Join_none none 0 sep w).mono fun _ _ ⟨he, hw⟩ => ⟨⟨_, he, rfl⟩, hw ▸ Below.refl _ _⟩
 ·
  exact (Tryz.strings_Join g 0 c xs sep w hcells hg hN hc hlen).mono fun _ _ ⟨he, hb⟩ => ⟨⟨_, he, rfl⟩, hb⟩
theorem own_below {w w' : World} {B size n : Nat} {e : TypeId} {v : Value} {xs : List Value} (h : w.ownsRow B e size v n xs) (hb : Below w.heap.size w w') : w'.ownsRow B e size v n xs := by
 refine ⟨h.1, h.2.imp id ?_⟩
 rintro ⟨g, cap, cur, e0, e1, e2, e3, e4, e5, e6⟩
 have hlt : g < w.heap.size := by
  rcases Nat.lt_or_ge g w.heap.size with h' | h'
  ·
   exact h'
  ·
   rw [Array.getElem?_eq_none h'] at e2; cases e2
 exact ⟨g, cap, cur, e0, e1, (hb.block g hlt).trans e2, e3, e4, e5, e6⟩
def wo (l : List Int) : List ByteArray := l.map fun c => ⟨(dh c).toArray⟩
theorem AL (l : List Int) : (wo l).map (·.data.toList) = l.map dh := by simp [wo]
theorem II {c : Int} (h : 1 ≤ c ∧ c ≤ 999) : (dh c).length ≤ 4 := by
 rw [lg (by omega), List.length_cons]
 have := cO 2 c.toNat (by omega)
 omega
theorem ET : ∀ (l : List Int), (∀ c ∈ l, 1 ≤ c ∧ c ≤ 999) → (Lib.join (l.map dh) [44]).length ≤ 5 * l.length
 | [], _ => by simp [Lib.join_nil]
 | [c], h => by
  rw [List.map_cons, List.map_nil, Lib.join_one]
  have := II (h c (List.mem_cons_self ..))
  simp; omega
 | c :: d :: r, h => by
  have e : Lib.join ((c :: d :: r).map dh) [44] = dh c ++ 44 :: Lib.join ((d :: r).map dh) [44] := by
   simp only [List.map_cons]
   rw [Lib.join_cons, Lib.join_cons]; simp [Lib.joinTail]
  have := ET (d :: r) (fun x hx => h x (List.mem_cons_of_mem _ hx))
  have := II (h c (List.mem_cons_self ..))
  rw [e]
  simp only [List.length_append, List.length_cons] at *
  omega
theorem IJ (A : Option Addr) (l : List Int) (c B1 : Nat) (w : World) (hl : l.length ≤ 1000) (hc : ∀ c ∈ l, 1 ≤ c ∧ c ≤ 999) (hx : Reads w B1 1 A l.length (dS .i64 l)) (hB1 : B1 ≤ w.heap.size) (htab : Tab w) :
  Calls Tryz.prog 45 #[.slice A l.length c] w fun e w' => (∃ t : ByteArray, e = .returned (.string t) ∧ t.data.toList = kW l) ∧ Below w.heap.size w w' := by
 have HT := qh htab
 have HX := qh (hx.more hB1)
 have HC := qh hc
 clear htab hx hc
 obtain ⟨i0, hi0, hz0, hz1, hz2⟩ := info_parts Xx
 go_enter Tryz.func45, Tryz.ntmps45
 go_wp2
 go_loopw [3, 8] (fun v i wr => ∃ k : Nat, k ≤ l.length ∧ i = .int .i64 k ∧ wr.ownsRow w.heap.size 9 1 v k ((wo (l.take k)).map Value.string) ∧ Below w.heap.size w wr) (fun _ i _ => l.length - (intOf i).toNat)
 case atStart => exact ⟨0, Nat.zero_le _, rfl, World.ownsRow_nil _ _ _ _, Below.refl _ _⟩
 case round =>
  obtain ⟨k, hk, rfl, hown, hbr⟩ := hrel
  have HO := qh hown
  clear hown
  have tV := hbr.size
  by_cases hlt : k < l.length
  ·
   obtain ⟨ad, u, rfl, hb, hu, hcell⟩ := (HX.out.below hbr).at_ hlt
   obtain ⟨hkl, rfl⟩ := kZ _ _ _ _ hu
   obtain ⟨x, hx⟩ := ae (l[k])
   have ZX := HC.out l[k] (List.getElem_mem hkl)
   rw [hx] at ZX hcell
   obtain ⟨hx1, hx2⟩ := ZX
   have HXX := qh hx
   have HT1 := qh (HT.out.below hbr)
   clear hu hx
   go_wp2_with fail
   refine (mO x wr (by omega) (by omega) HT1.out).mono ?_
   rintro e w2 ⟨⟨t, rfl, ht⟩, hb2⟩
   have jf := qh ht
   have hown2 := own_below HO.out hb2
   have Gh := hbr.trans (hb2.mono tV)
   have hs2 := Gh.size
   have htl : t.size ≤ 20 := by
    rw [fB ht]
    obtain ⟨m, rfl⟩ : ∃ m : Nat, x = m := ⟨x.toNat, by omega⟩
    rw [jd]
    have := cO 2 m (by omega)
    omega
   have HN := qh (show (wo (l.take (k + 1))).map Value.string = (wo (l.take k)).map Value.string ++ [.string (⟨#[35]⟩ ++ t)] by
    rw [List.take_succ_eq_append_getElem hkl, HXX.out]
    unfold wo
    rw [List.map_append, List.map_append]
    congr 1
    show [Value.string _] = _
    rw [nV (show (⟨#[35]⟩ ++ t : ByteArray).data.toList = dh x by rw [aC, jf.out]; rfl)])
   clear ht hcell HO hb2
   go_wp2_with (at_builtin; refine wpList_append_own _ rfl _ _ 53 rfl w.heap.size 9 i0 (.string ByteArray.empty) 1 16 Tryz.underlying53 hi0 hz0 hz1 hz2 rfl (by decide) _ _ _ rfl (hown2.alloc _) ⟨w2.heap.size, 0, none⟩ 1 1 [.string (⟨#[35]⟩ ++ t)] rfl rfl ?c1 ?c2 ?c3 ?c4 ?c5 ?_)
   case c1 => intro j u hj; cases j <;> simp_all [go_sem]
   case c2 => intro u hu; simp only [List.mem_singleton] at hu; subst hu; rfl
   case c3 => unfold maxLen; omega
   case c4 => omega
   case c5 => simp; omega
   intro v2 w3 hown3 hg3 _
   have hb3 : Below w.heap.size w w3 := (Gh.alloc (by omega) _).grown hg3 (by simp; omega) (fun g hg => (hown2.lt g hg).1)
   have HO := qh (show w3.ownsRow w.heap.size 9 1 v2 (k + 1) ((wo (l.take (k + 1))).map Value.string) by rw [HN.out]; exact hown3)
   clear hown3 hg3 hown2
   go_wp2
   go_roundw
   case rel => exact ⟨k + 1, by omega, by go_num, HO.out, hb3⟩
   case measure => simp [intOf]; omega
  ·
   have HF := qh (show wr.ownsRow w.heap.size 9 1 _ k ((wo l).map Value.string) by
    have h := HO.out
    rwa [List.take_of_length_le (by omega)] at h)
   have hjl := ET l HC.out
   clear HO
   go_wp2_with fail
   refine (IG (wo l) ⟨#[44]⟩ wr HF.out (by unfold wo; simp; omega) (by rw [AL]; show (Lib.join _ [44]).length ≤ _; omega)).mono ?_
   rintro e w2 ⟨⟨t, rfl, ht⟩, hb2⟩
   rw [AL] at ht
   have jf := qh (show t.data.toList = Lib.join (l.map dh) [44] from ht)
   have htl : t.size ≤ 5000 := by rw [fB jf.out]; omega
   have hb3 := hbr.trans (hb2.mono tV)
   clear ht
   go_wp2
   go_ret
   exact ⟨⟨_, rfl, by rw [aC, aC, jf.out]; rfl⟩, hb3⟩
end Go.Proofs.YtobanldeicclmaaGreatDoor
namespace Go.Proofs.YtobanldeicclmaaGreatDoor
open Go.RowKit
theorem Sl {a b c a' b' c' : Int} (h1 : a = a') (h2 : b = b') (h3 : c = c') : Ending.returned (.tuple #[.int .i64 a, .int .i64 b, .int .i64 c]) = .returned (.tuple #[.int .i64 a', .int .i64 b', .int .i64 c']) := by rw [h1, h2, h3]
theorem Sm (y : Int) (w : World) (h0 : 0 ≤ y) (h1 : y ≤ 10000) :
  Calls Tryz.prog 131 #[.int .i64 y] w fun e w' => e = .returned (.bool (Cal.lp y)) ∧ w = w' := by
 go_enter Tryz.func131, Tryz.ntmps131
 go_wp2
 all_goals (go_ret; exact ⟨aj (by simp_all [Cal.lp, Bool.beq_eq_decide_eq]), rfl⟩)
theorem EU (y : Int) (w : World) (h0 : 0 ≤ y) (h1 : y ≤ 10000) :
  Calls Tryz.prog 225 #[.int .i64 y] w fun e w' => e = .returned (.bool (Cal.lp y)) ∧ w = w' := by
 go_enter Tryz.func225, Tryz.ntmps225
 go_wp2
 all_goals (go_ret; exact ⟨aj (by simp_all [Cal.lp, Bool.beq_eq_decide_eq, bne]), rfl⟩)
theorem rZ (y m : Int) (w : World) (h0 : 0 ≤ y) (h1 : y ≤ 10000) :
  Calls Tryz.prog 109 #[.int .i64 y, .int .i64 m] w fun e w' => e = .returned (.int .i64 (Cal.zg y m)) ∧ w = w' := by
 go_enter Tryz.func109, Tryz.ntmps109
 go_wp2_with (go_at_call 131; refine (Sm _ _ h0 h1).mono ?_; rintro e w' ⟨rfl, rfl⟩)
 all_goals (go_ret; exact ⟨ah (by simp_all [Cal.zg]), rfl⟩)
theorem lq (y m : Int) (w : World) (h0 : 0 ≤ y) (h1 : y ≤ 10000) :
  Calls Tryz.prog 213 #[.int .i64 y, .int .i64 m] w fun e w' => e = .returned (.int .i64 (Cal.zg y m)) ∧ w = w' := by
 go_enter Tryz.func213, Tryz.ntmps213
 go_wp2_with (go_at_call 225; refine (EU _ _ h0 h1).mono ?_; rintro e w' ⟨rfl, rfl⟩)
 all_goals (go_ret; exact ⟨ah (by simp_all [Cal.zg]), rfl⟩)
theorem oL (y : Int) (w : World) (h0 : 0 ≤ y) (h1 : y ≤ 10000) :
  Calls Tryz.prog 214 #[.int .i64 y] w fun e w' => e = .returned (.int .i64 (Cal.yd y)) ∧ w = w' := by
 go_enter Tryz.func214, Tryz.ntmps214
 go_wp2_with (go_at_call 225; refine (EU _ _ h0 h1).mono ?_; rintro e w' ⟨rfl, rfl⟩)
 all_goals (go_ret; exact ⟨ah (by simp_all [Cal.yd]), rfl⟩)
theorem nK (y m d : Int) (w : World) (h0 : 1600 ≤ y) (h1 : y ≤ 2400) (m1 : 1 ≤ m) (m2 : m ≤ 12) (d0 : 0 ≤ d) (d1 : d ≤ 40) :
  Calls Tryz.prog 70 #[.int .i64 y, .int .i64 m, .int .i64 d] w fun e w' => e = .returned (.int .i64 (Cal.num y m d)) ∧ w = w' := by
 have hb := Cal.vk y h0 h1
 go_enter Tryz.func70, Tryz.ntmps70
 go_wp2
 go_loop [9, 8] (fun k s => ∃ j : Int, 1 ≤ j ∧ j ≤ m ∧ k = .int .i64 j ∧ s = .int .i64 (Cal.base y + Cal.wP y j)) (fun k _ => (m - intOf k).toNat)
 case atStart => exact ⟨1, by omega, by omega, rfl, by rw [Cal.rP]; unfold Cal.base; simp⟩
 case round =>
  obtain ⟨j, hj1, hj2, rfl, rfl⟩ := hrel
  have cb := Cal.Ac y j
  have db := Cal.wQ y j
  by_cases hlt : j < m
  ·
   have cs := Cal.kG y j hj1 (by omega)
   have CS := qh cs
   clear cs
   go_wp2_with (go_at_call 109; refine (rZ _ _ _ (by omega) (by omega)).mono ?_; rintro e w' ⟨rfl, rfl⟩)
   go_round
   case rel => exact ⟨j + 1, by omega, by omega, rfl, by rw [CS.out, Int.add_assoc]⟩
   case measure => simp [intOf]; omega
  ·
   obtain rfl : j = m := by omega
   go_wp2
   go_ret
   exact ⟨ah (by unfold Cal.num; rfl), rfl⟩
theorem KO (y m d : Int) (h0 : 1600 ≤ y) (h1 : y ≤ 2400) (d0 : 0 ≤ d) (d1 : d ≤ 40) : -200000 ≤ Cal.num y m d ∧ Cal.num y m d ≤ 200000 := by
 have := Cal.vk y h0 h1
 have := Cal.Ac y m
 unfold Cal.num
 omega
theorem NI (y m : Int) : Cal.num y m 1 = Cal.base y + Cal.wP y m := by unfold Cal.num; omega
theorem Yd (y : Int) : Cal.num y 1 1 = Cal.base y := by unfold Cal.num; rw [Cal.rP]; omega
theorem Sr {a b c d a' b' c' d' : Int} (h1 : a = a') (h2 : b = b') (h3 : c = c') (h4 : d = d') : Ending.returned (.tuple #[.int .i64 a, .int .i64 b, .int .i64 c, .int .i64 d]) = .returned (.tuple #[.int .i64 a', .int .i64 b', .int .i64 c', .int .i64 d']) := by rw [h1, h2, h3, h4]
theorem OO (n : Int) (w : World) (h1 : -25567 ≤ n) (h2 : n ≤ 84005) :
  Calls Tryz.prog 46 #[.int .i64 n] w fun e w' => e = .returned (.tuple #[.int .i64 (Cal.cy n), .int .i64 (Cal.cm n), .int .i64 (Cal.cd n)]) ∧ w = w' := by
 obtain ⟨g1, g2, g3⟩ := Cal.Rt h1 h2
 have main : ∀ g : Int, Cal.base g ≤ n → 1899 ≤ g → g ≤ 2199 → Cal.EI n = g → Calls Tryz.prog 46 #[.int .i64 n] w fun e w' => e = .returned (.tuple #[.int .i64 (Cal.cy n), .int .i64 (Cal.cm n), .int .i64 (Cal.cd n)]) ∧ w = w' := by
  intro g g1 g2 g3 hg
  have hq1 := Cal.VA h1 h2
  obtain ⟨q1, q2, q3, q4⟩ := hq1
  have HG := qh hg
  clear hg
  by_cases hn : n < 0
  all_goals
   have HE := qh HG.out
   unfold Cal.EI at HE
   go_enter Tryz.func46, Tryz.ntmps46
   go_wp2
   go_loop [2] (fun t => ∃ y : Int, Cal.base y ≤ n ∧ 1899 ≤ y ∧ y ≤ 2199 ∧ t = .int .i64 y) (fun t => (2200 - intOf t).toNat)
   case atStart =>
    refine ⟨g, g1, g2, g3, ?_⟩
    rw [← HE.out]
    first | rw [if_pos hn] | rw [if_neg (by omega)]
   case round =>
    obtain ⟨y, hb, y1, y2, rfl⟩ := hrel
    have e11 := Yd (y + 1)
    have nb := KO (y + 1) 1 1 (by omega) (by omega) (by omega) (by omega)
    obtain ⟨nb1, nb2⟩ := nb
    by_cases hc : Cal.base (y + 1) ≤ n
    ·
     have hc' : Cal.num (y + 1) 1 1 ≤ n := by omega
     have y3 : y + 1 ≤ 2199 := by
      by_cases h : y + 1 ≤ 2199
      ·
       exact h
      ·
       have := Cal.qR
       have := Cal.kT (show 2200 ≤ y + 1 by omega)
       omega
     clear e11
     go_wp2_with (go_at_call 70; refine (nK _ _ _ _ (by omega) (by omega) (by omega) (by omega) (by omega) (by omega)).mono ?_; rintro e w' ⟨rfl, rfl⟩)
     go_round
     case rel => exact ⟨y + 1, hc, by omega, y3, rfl⟩
     case measure => simp [intOf]; omega
    ·
     have hc' : n < Cal.num (y + 1) 1 1 := by omega
     have hs := Cal.oU y
     have hs' : n < Cal.base y + Cal.yd y := by omega
     clear e11 hs hc
     go_wp2_with (go_at_call 70; refine (nK _ _ _ _ (by omega) (by omega) (by omega) (by omega) (by omega) (by omega)).mono ?_; rintro e w' ⟨rfl, rfl⟩)
     go_loop [3] (fun t => ∃ m : Int, 1 ≤ m ∧ m ≤ 12 ∧ t = .int .i64 m ∧ Cal.base y + Cal.wP y m ≤ n) (fun t => (12 - intOf t).toNat)
     case atStart => exact ⟨1, by omega, by omega, rfl, by rw [Cal.rP]; omega⟩
     case round =>
      obtain ⟨m, m1, m2, rfl, hm⟩ := hrel
      have en := NI y (m + 1)
      have nb := KO y (m + 1) 1 (by omega) (by omega) (by omega) (by omega)
      obtain ⟨nb3, nb4⟩ := nb
      have nb' := KO y m 1 (by omega) (by omega) (by omega) (by omega)
      obtain ⟨nb5, nb6⟩ := nb'
      by_cases hd : m < 12 ∧ Cal.base y + Cal.wP y (m + 1) ≤ n
      ·
       obtain ⟨hd1, hd2⟩ := hd
       have hd3 : Cal.num y (m + 1) 1 ≤ n := by omega
       clear en
       go_wp2_with (go_at_call 70; refine (nK _ _ _ _ (by omega) (by omega) (by omega) (by omega) (by omega) (by omega)).mono ?_; rintro e w' ⟨rfl, rfl⟩)
       go_round
       case rel => exact ⟨m + 1, by omega, by omega, rfl, hd2⟩
       case measure => simp [intOf]; omega
      ·
       have hv : n < Cal.base y + Cal.wP y m + Cal.zg y m := by
        by_cases h12 : m = 12
        ·
         have := Cal.kG y 12 (by omega) (by omega)
         have h13 := Cal.F6 y
         subst h12
         simp only [show (12 : Int) + 1 = 13 from rfl] at *
         omega
        ·
         have := Cal.kG y m m1 m2
         omega
       have Gi := Cal.xJ hm hv m1 m2
       have en1 := NI y m
       have HR : Hid (Cal.cy n = y ∧ Cal.cm n = m ∧ Cal.cd n = n - Cal.num y m 1 + 1) := ⟨Gi.cy, Gi.cm, by rw [Gi.cd, en1]⟩
       have hd4 : m < 12 → n < Cal.num y (m + 1) 1 := fun h => by omega
       clear hd en en1 Gi
       by_cases h12 : m < 12
       all_goals
        first | have hd5 := hd4 h12 | skip
        clear hd4
        go_wp2_with (go_at_call 70; refine (nK _ _ _ _ (by omega) (by omega) (by omega) (by omega) (by omega) (by omega)).mono ?_; rintro e w' ⟨rfl, rfl⟩)
        go_ret3
        exact ⟨Sl HR.out.1.symm HR.out.2.1.symm HR.out.2.2.symm, rfl⟩
 exact main _ g1 g2 g3 rfl
theorem OQ (n : Int) (w : World) (h1 : -25567 ≤ n) (h2 : n ≤ 84005) :
  Calls Tryz.prog 200 #[.int .i64 n] w fun e w' => e = .returned (.tuple #[.int .i64 (Cal.cy n), .int .i64 (Cal.cm n), .int .i64 (Cal.cd n), .int .i64 0]) ∧ w = w' := by
 have b1 : bF n (-25567) 84005 = false := nC (by omega) (by omega)
 go_enter Tryz.func200, Tryz.ntmps200
 go_wp2_with (go_at_call 91; refine (bC _ _ _ _).mono ?_; rintro e w' ⟨rfl, rfl⟩)
 clear b1
 go_loop [6, 7] (fun t r => ∃ y : Int, 1900 ≤ y ∧ y ≤ 2199 ∧ 0 ≤ n - Cal.base y ∧ t = .int .i64 y ∧ r = .int .i64 (n - Cal.base y)) (fun t _ => (2200 - intOf t).toNat)
 case atStart =>
  have hb := Cal.vg
  exact ⟨1900, by omega, by omega, by omega, rfl, by rw [hb]; go_num⟩
 case round =>
  obtain ⟨y, y1, y2, hr, rfl, rfl⟩ := hrel
  have yb := Cal.vk y (by omega) (by omega)
  obtain ⟨yb1, yb2⟩ := yb
  have ydb := Cal.KI y
  obtain ⟨agJ, agK⟩ := ydb
  have hs := Cal.oU y
  have HS := qh hs
  clear hs
  by_cases hc : Cal.yd y ≤ n - Cal.base y
  ·
   have y3 : y + 1 ≤ 2199 := by
    have := HS.out
    by_cases h : y + 1 ≤ 2199
    ·
     exact h
    ·
     have := Cal.qR
     have := Cal.kT (show 2200 ≤ y + 1 by omega)
     omega
   go_wp2_with (go_at_call 214; refine (oL _ _ (by omega) (by omega)).mono ?_; rintro e w' ⟨rfl, rfl⟩)
   go_round
   case rel => exact ⟨y + 1, by omega, y3, by rw [HS.out]; omega, rfl, by rw [HS.out, show n - (Cal.base y + Cal.yd y) = n - Cal.base y - Cal.yd y from by omega]⟩
   case measure => simp [intOf]; omega
  ·
   go_wp2_with (go_at_call 214; refine (oL _ _ (by omega) (by omega)).mono ?_; rintro e w' ⟨rfl, rfl⟩)
   go_loop [7, 8] (fun r t => ∃ m : Int, 1 ≤ m ∧ m ≤ 12 ∧ t = .int .i64 m ∧ 0 ≤ n - Cal.base y - Cal.wP y m ∧ r = .int .i64 (n - Cal.base y - Cal.wP y m)) (fun _ t => (12 - intOf t).toNat)
   case atStart => exact ⟨1, by omega, by omega, rfl, by rw [Cal.rP]; omega, by rw [Cal.rP]; simp⟩
   case round =>
    obtain ⟨m, m1, m2, rfl, hm, rfl⟩ := hrel
    have cb := Cal.Ac y m
    have db := Cal.wQ y m
    obtain ⟨cb1, cb2⟩ := cb
    obtain ⟨db1, db2⟩ := db
    have CS := qh (Cal.kG y m m1 m2)
    by_cases hd : Cal.zg y m ≤ n - Cal.base y - Cal.wP y m
    ·
     have m3 : m + 1 ≤ 12 := by
      by_cases h : m = 12
      ·
       subst h
       have := CS.out
       have h13 := Cal.F6 y
       simp only [show (12 : Int) + 1 = 13 from rfl] at *
       omega
      ·
       omega
     go_wp2_with (go_at_call 213; refine (lq _ _ _ (by omega) (by omega)).mono ?_; rintro e w' ⟨rfl, rfl⟩)
     go_round
     case rel => exact ⟨m + 1, by omega, m3, rfl, by rw [CS.out]; omega, by rw [CS.out, show n - Cal.base y - (Cal.wP y m + Cal.zg y m) = n - Cal.base y - Cal.wP y m - Cal.zg y m from by omega]⟩
     case measure => simp [intOf]; omega
    ·
     have Gi := Cal.xJ (n := n) (y := y) (m := m) (by omega) (by omega) m1 m2
     have HR : Hid (Cal.cy n = y ∧ Cal.cm n = m ∧ Cal.cd n = n - Cal.base y - Cal.wP y m + 1) := ⟨Gi.cy, Gi.cm, by rw [Gi.cd]; omega⟩
     clear Gi
     go_wp2_with (go_at_call 213; refine (lq _ _ _ (by omega) (by omega)).mono ?_; rintro e w' ⟨rfl, rfl⟩)
     refine bodyPost_ret (FY rfl _ _ _) rfl ?_
     exact ⟨Sr HR.out.1.symm HR.out.2.1.symm HR.out.2.2.symm rfl, rfl⟩
end Go.Proofs.YtobanldeicclmaaGreatDoor
