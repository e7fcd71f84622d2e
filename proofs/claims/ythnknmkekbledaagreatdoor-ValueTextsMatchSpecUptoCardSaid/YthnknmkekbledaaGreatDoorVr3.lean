/- The walks of the reference's Show for every value, of Atoi at every text, of the reference's readDecimal. -/
import Derived.Test.YthnknmkekbledaaGreatDoorVr2
import Derived.Lib.AtoiErrMem
import Derived.Shelf.Strconv.AtoiAll
namespace Go.Proofs.YthnknmkekbledaaGreatDoor
open Go.RowKit Dig Vtx

set_option maxHeartbeats 1000000 in
set_option maxRecDepth 100000 in
theorem rShow_any (x : Val) (A : Option Addr) (c : Nat) (w : World) (hl : x.l.length ≤ maxLen) (hs : x.s.size ≤ maxLen) (hx : Reads w w.heap.size 1 A x.l.length (numV .i64 x.l)) (htab : Tab w) (hm : Mx w) :
    Calls Tryz.prog 5 #[.agg #[.int .i64 x.k, .int .i64 x.n, .string x.s, .slice A x.l.length c]] w fun e w' => (∃ t : ByteArray, e = .returned (.tuple #[.string t, .int .i64 (checkV x)]) ∧ (checkV x = 0 → t.data.toList = showT x.k x.n x.s.data.toList x.l)) ∧ Below w.heap.size w w' := by
  by_cases h0 : checkV x = 0
  · obtain ⟨hq, hl4, hs2⟩ := snd_of h0
    refine (rshow_any x.k x.n x.s x.l _ A c 0 w rfl hq h0 hl4 hs2 hx htab hm).mono ?_
    rintro e w' ⟨⟨t, he, ht⟩, hb⟩
    exact ⟨⟨t, by rw [h0]; exact he, fun _ => ht⟩, hb⟩
  have HX := Lib.hid hx
  have H0 := Lib.hid h0
  obtain ⟨f, hf⟩ : ∃ f, checkV x = f := ⟨_, rfl⟩
  have hne : (f != 0) = true := by rw [← hf]; simpa using h0
  have HF := Lib.hid hf
  clear htab hm hx h0 hf
  go_enter Tryz.func5, Tryz.ntmps5
  go_wp2_with fail
  obtain ⟨W, hW⟩ : ∃ W, W = (w.alloc (.cells #[.int .i64 x.k, .int .i64 x.n, .string x.s, .slice A x.l.length c] 24 (0, 0))) := ⟨_, rfl⟩
  have hbw : Below w.heap.size w W := by rw [hW]; exact ((Below.refl _ w).alloc (Nat.le_refl _) _)
  have B0 : Blk W (w.heap.size) 24 #[.int .i64 x.k, .int .i64 x.n, .string x.s, .slice A x.l.length c] := by
    rw [hW]
    have := Blk.new w 24 #[.int .i64 x.k, .int .i64 x.n, .string x.s, .slice A x.l.length c]
    exact this
  have hsz : W.heap.size = w.heap.size + 1 := by rw [hW]; simp
  rw [← hW]
  clear hW hsz B0
  refine (rcheck_any x A c w.heap.size W hl hs (HX.out.below hbw) hbw.size).mono ?_
  rintro e w1 ⟨rfl, hb1⟩
  have hbw := hbw.trans (hb1.mono hbw.size)
  rw [HF.out]
  clear hb1
  go_wp2
  go_ret2
  exact ⟨⟨⟨#[]⟩, ret_val (by rw [HF.out]; rfl), fun h => absurd h H0.out⟩, hbw⟩
/-- the library's two errors lie in their variables -/
def Er (w : World) : Prop := ∃ t p t' p', w.cell? ⟨4, 0, none⟩ = some (.iface t p) ∧ w.cell? ⟨5, 0, none⟩ = some (.iface t' p')
theorem Er.below {w w' : World} (h : Er w) (hb : Below w.heap.size w w') : Er w' := by
  obtain ⟨t, p, t', p', h1, h2⟩ := h
  exact ⟨t, p, t', p', Below.cell_of hb h1, Below.cell_of hb h2⟩
theorem atoi_any (s : ByteArray) (w : World) (hs : s.size ≤ 2000000) (he : Er w) :
    Calls Tryz.prog 44 #[.string s] w fun e w' => (∃ er, e = .returned (.tuple #[.int .i64 (atoiN s.data.toList), er])) ∧ Below w.heap.size w w' := by
  obtain ⟨t, p, t', p', h1, h2⟩ := he
  have hmax : s.size ≤ 9223372036854775806 := by omega
  have hlim : s.size ≤ 281474976710656 := by omega
  rcases hx : Lib.atoiAll s.data.toList with v | _ | _
  · have e : atoiN s.data.toList = v := by unfold atoiN; rw [hx]
    rw [e]
    exact (Any.strconv_Atoi_ok Tryz.laysC172 s hmax v hx w).mono fun _ _ ⟨he, hw⟩ => ⟨⟨_, he⟩, by
      rcases hw with rfl | ⟨t, rfl⟩
      · exact Below.refl _ _
      · exact Lib.bytesWorld_below _ _ _⟩
  · have e : atoiN s.data.toList = 0 := by unfold atoiN; rw [hx]
    rw [e]
    exact (Any.strconv_Atoi_syntax Tryz.laysC172 s hlim hx _ w h1 (Or.inr ⟨_, _, rfl⟩)).mono fun _ _ ⟨N, he, _, _, hb⟩ => ⟨⟨_, he⟩, hb⟩
  · have e : atoiN s.data.toList = Lib.atoiSat s.data.toList := by unfold atoiN; rw [hx]
    rw [e]
    exact (Any.strconv_Atoi_range Tryz.laysC172 s hlim hx _ w h2 (Or.inr ⟨_, _, rfl⟩)).mono fun _ _ ⟨N, he, _, _, hb⟩ => ⟨⟨_, he⟩, hb⟩
/-- what is parsed of at most 12 bytes is small -/
def smallEnd (p : Lib.NumEnd Nat) : Prop := match p with
  | .ok u => u < 1000000000000
  | .range => False
  | _ => True
theorem parse_small : ∀ (l : List UInt8) (acc k : Nat), l.length ≤ k → k ≤ 12 → acc < 10 ^ (12 - k) → smallEnd (Lib.parseUint10 acc l)
  | [], acc, k, _, hk, ha => by
    show acc < 1000000000000
    have : 10 ^ (12 - k) ≤ 10 ^ 12 := Nat.pow_le_pow_right (by omega) (by omega)
    omega
  | b :: r, acc, k, hl, hk, ha => by
    unfold Lib.parseUint10
    by_cases hb : 48 ≤ b.toNat ∧ b.toNat ≤ 57
    · obtain ⟨k, rfl⟩ : ∃ j, k = j + 1 := ⟨k - 1, by simp at hl; omega⟩
      have h12 : 10 ^ (12 - (k + 1)) ≤ 10 ^ 12 := Nat.pow_le_pow_right (by omega) (by omega)
      have e : 10 ^ (12 - k) = 10 ^ (12 - (k + 1)) * 10 := by rw [← Nat.pow_succ]; congr 1; omega
      rw [if_pos hb, if_neg (by omega), if_neg (by omega)]
      exact parse_small r _ k (by simpa using hl) (by omega) (by rw [e]; omega)
    · rw [if_neg hb]; trivial
theorem atoiN_small {l : List UInt8} (h : l.length ≤ 12) : -1000000000000 ≤ atoiN l ∧ atoiN l ≤ 1000000000000 := by
  unfold atoiN Lib.atoiAll
  cases l with
  | nil => decide
  | cons b r =>
    have hp : smallEnd (Lib.parseMag (if b.toNat = 43 ∨ b.toNat = 45 then r else b :: r)) := by
      unfold Lib.parseMag
      by_cases h0 : (if b.toNat = 43 ∨ b.toNat = 45 then r else b :: r) = []
      · rw [if_pos h0]; trivial
      · rw [if_neg h0]
        refine parse_small _ 0 12 ?_ (by omega) (by decide)
        split
        · simp at h; omega
        · exact h
    simp only
    generalize Lib.parseMag (if b.toNat = 43 ∨ b.toNat = 45 then r else b :: r) = p at hp ⊢
    rcases p with u | _ | _
    · have hu : u < 1000000000000 := hp
      simp only
      rw [if_neg (by omega), if_neg (by omega)]
      simp only
      split <;> omega
    · simp
    · exact hp.elim
theorem hasPre1 (s : ByteArray) (c : UInt8) (w : World) :
    Calls Tryz.prog 43 #[.string s, .string ⟨#[c]⟩] w fun e w' => e = .returned (.bool (Lib.hasPrefix s.data.toList [c])) ∧ w = w' :=
  (Tryz.strings_HasPrefix s ⟨#[c]⟩ w).mono fun _ _ ⟨he, hw⟩ => ⟨he, hw.symm⟩
set_option maxHeartbeats 1000000 in
theorem readDecimal_any (s : ByteArray) (w : World) (hs : s.size ≤ 2000000) (hm : Mx w) (he : Er w) :
    Calls Tryz.prog 49 #[.string s] w fun e w' => e = .returned (.int .i64 (readDecF s.data.toList)) ∧ Below w.heap.size w w' := by
  have HM := Lib.hid hm
  have HE := Lib.hid he
  obtain ⟨neg, hneg⟩ : ∃ b, Lib.hasPrefix s.data.toList [45] = b := ⟨_, rfl⟩
  have HN := Lib.hid hneg
  clear hm he hneg
  go_enter Tryz.func49, Tryz.ntmps49
  go_wp2_with fail
  refine (hasPre1 s 45 w).mono ?_
  rw [HN.out]
  rintro e w1 ⟨rfl, rfl⟩
  go_wp2_with fail
  refine (trimPre s ⟨#[45]⟩ w).mono ?_
  rintro e w1 ⟨⟨d, rfl, hd⟩, rfl⟩
  have hdl : d.size ≤ s.size := by rw [dsize hd]; exact Lib.trimPrefix_le _ _
  have HD := Lib.hid hd
  clear hd
  go_wp2_with fail
  refine (cut_any d 46 w (by omega) HM.out).mono ?_
  rintro e w1 ⟨⟨fr, pt, fd, rfl, hfr, hpt⟩, hb1⟩
  have HFR := Lib.hid hfr
  have HPT := Lib.hid hpt
  have HR := Lib.hid (show readDecF s.data.toList = if 4 < pt.size ∨ 12 < fr.size then 0 else if neg = true then -(atoiN fr.data.toList * 10000 + atoiN (pt.data.toList ++ zeros (4 - pt.size))) else atoiN fr.data.toList * 10000 + atoiN (pt.data.toList ++ zeros (4 - pt.size)) by
    unfold readDecF
    simp only []
    rw [← show d.data.toList = Lib.trimPrefix s.data.toList [45] from HD.out, ← hfr, ← hpt, HN.out]
    rfl)
  clear hfr hpt
  by_cases h4 : 4 < pt.size
  · have HZ := Lib.hid (show readDecF s.data.toList = 0 by rw [HR.out, if_pos (.inl h4)])
    have b4 : decide ((4 : Int) < (pt.size : Nat)) = true := by simp; omega
    go_wp2
    go_ret
    exact ⟨ret_val (by rw [HZ.out]; rfl), hb1⟩
  have b4 : decide ((4 : Int) < (pt.size : Nat)) = false := by simp; omega
  by_cases h12 : 12 < fr.size
  · have HZ := Lib.hid (show readDecF s.data.toList = 0 by rw [HR.out, if_pos (.inr h12)])
    have b12 : decide ((12 : Int) < (fr.size : Nat)) = true := by simp; omega
    go_wp2
    go_ret
    exact ⟨ret_val (by rw [HZ.out]; rfl), hb1⟩
  have b12 : decide ((12 : Int) < (fr.size : Nat)) = false := by simp; omega
  have HR := Lib.hid (show readDecF s.data.toList = if neg = true then -(atoiN fr.data.toList * 10000 + atoiN (pt.data.toList ++ zeros (4 - pt.size))) else atoiN fr.data.toList * 10000 + atoiN (pt.data.toList ++ zeros (4 - pt.size)) by
    rw [HR.out, if_neg (by omega)])
  obtain ⟨n, hn⟩ : ∃ n, atoiN fr.data.toList = n := ⟨_, rfl⟩
  have HNN := Lib.hid hn
  obtain ⟨bn1, bn2⟩ := atoiN_small (l := fr.data.toList) (show fr.size ≤ 12 by omega)
  rw [hn] at bn1 bn2
  clear hn
  go_wp2_with fail
  refine (atoi_any fr w1 (by omega) (HE.out.below hb1)).mono ?_
  rw [HNN.out]
  rintro e w2 ⟨⟨er, rfl⟩, hb2⟩
  have hbw := hb1.trans (hb2.mono hb1.size)
  clear hb1 hb2
  go_wp2_with fail
  rw [show (4 : Int) - pt.size = ((4 - pt.size : Nat) : Int) from by omega]
  refine (repeat_any _ w2 (by omega)).mono ?_
  rintro e w3 ⟨⟨z, rfl, hz⟩, hb3⟩
  have HZ := Lib.hid (show (pt ++ z : ByteArray).data.toList = pt.data.toList ++ zeros (4 - pt.size) by rw [toList_app, hz])
  have hzl : z.size = 4 - pt.size := by rw [dsize hz]; simp [zeros]
  have hzl1 : z.size ≤ 4 := by omega
  have hsum : (pt ++ z : ByteArray).size ≤ 12 := by rw [ByteArray.size_append]; omega
  obtain ⟨m, hmm⟩ : ∃ m, atoiN (pt ++ z : ByteArray).data.toList = m := ⟨_, rfl⟩
  obtain ⟨bm1, bm2⟩ := atoiN_small (l := (pt ++ z : ByteArray).data.toList) hsum
  rw [hmm] at bm1 bm2
  have HMM := Lib.hid hmm
  have hbw := hbw.trans (hb3.mono hbw.size)
  clear hz hzl hb3 hmm
  go_wp2_with fail
  refine (atoi_any (pt ++ z) w3 (by omega) (HE.out.below hbw)).mono ?_
  rw [HMM.out]
  rintro e w4 ⟨⟨er2, rfl⟩, hb4⟩
  have hbw := hbw.trans (hb4.mono hbw.size)
  have HF := Lib.hid (show readDecF s.data.toList = if neg = true then -(n * 10000 + m) else n * 10000 + m by rw [HR.out, HNN.out, ← HZ.out, HMM.out])
  clear hsum hb4
  cases neg
  · go_wp2
    go_ret
    exact ⟨ret_val (by rw [HF.out]; rfl), hbw⟩
  · go_wp2
    go_ret
    exact ⟨ret_val (by rw [HF.out]; rfl), hbw⟩
end Go.Proofs.YthnknmkekbledaaGreatDoor
