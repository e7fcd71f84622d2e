/- Lemmas for the claim: walks and plain laws. -/
import Derived.Test.YtobanldeicclmaaGreatDoorZ17
import Derived.Lib.AtoiErrMem
import Derived.Shelf.Strconv.AtoiAll
import Derived.Test.YtobanldeicclmaaGreatDoorZ14
import Derived.Shelf.Strings.SlTrimAscii
import Derived.Deep.Cut
import Derived.Test.YtobanldeicclmaaGreatDoorZ1
set_option maxHeartbeats 8000000
set_option maxRecDepth 100000
namespace Go.Proofs.YtobanldeicclmaaGreatDoor
open Go.RowKit Dig Vtx
theorem PT (x : Val) (A : Option Addr) (c : Nat) (w : World) (hl : x.l.length ≤ maxLen) (hs : x.s.size ≤ maxLen) (hx : Reads w w.heap.size 1 A x.l.length (dS .i64 x.l)) (htab : Tab w) (hm : Mx w) :
  Calls Tryz.prog 180 #[.agg #[.int .i64 x.k, .int .i64 x.n, .string x.s, .slice A x.l.length c]] w fun e w' => (∃ t : ByteArray, e = .returned (.tuple #[.string t, .int .i64 (aV x)]) ∧ (aV x = 0 → t.data.toList = showT x.k x.n x.s.data.toList x.l)) ∧ Below w.heap.size w w' := by
 by_cases h0 : aV x = 0
 ·
  obtain ⟨hq, hl4, hs2⟩ := qG h0
  refine (PR x.k x.n x.s x.l _ A c 0 w rfl hq h0 hl4 hs2 hx htab hm).mono ?_
  rintro e w' ⟨⟨t, he, ht⟩, hb⟩
  exact ⟨⟨t, by rw [h0]; exact he, fun _ => ht⟩, hb⟩
 have HX := qh hx
 have H0 := qh h0
 obtain ⟨f, hf⟩ := ae (aV x)
 have hne : (f != 0) = true := by rw [← hf]; simpa using h0
 have HF := qh hf
 clear htab hm hx h0 hf
 go_enter Tryz.func180, Tryz.ntmps180
 go_wp2_with fail
 obtain ⟨W, hW⟩ := au ((w.alloc (.cells #[.int .i64 x.k, .int .i64 x.n, .string x.s, .slice A x.l.length c] 24 (0, 0))))
 have hbw : Below w.heap.size w W := by rw [hW]; exact ((Below.refl _ w).alloc (Nat.le_refl _) _)
 have B0 : af W (w.heap.size) 24 #[.int .i64 x.k, .int .i64 x.n, .string x.s, .slice A x.l.length c] := by
  rw [hW]
  have := af.new w 24 #[.int .i64 x.k, .int .i64 x.n, .string x.s, .slice A x.l.length c]
  exact this
 have hsz : W.heap.size = w.heap.size + 1 := by rw [hW]; simp
 rw [← hW]
 clear hW hsz B0
 refine (iL x A c w.heap.size W hl hs (HX.out.below hbw) hbw.size).mono ?_
 rintro e w1 ⟨rfl, hb1⟩
 have hbw := hbw.trans (hb1.mono hbw.size)
 rw [HF.out]
 clear hb1
 go_wp2
 go_ret2
 exact ⟨⟨⟨#[]⟩, eP (by rw [HF.out]; rfl), fun h => absurd h H0.out⟩, hbw⟩
def Er (w : World) : Prop := ∃ t p t' p', w.cell? ⟨8, 0, none⟩ = some (.iface t p) ∧ w.cell? ⟨9, 0, none⟩ = some (.iface t' p')
theorem Er.below {w w' : World} (h : Er w) (hb : Below w.heap.size w w') : Er w' := by
 obtain ⟨t, p, t', p', h1, h2⟩ := h
 exact ⟨t, p, t', p', Below.cell_of hb h1, Below.cell_of hb h2⟩
theorem pR (s : ByteArray) (w : World) (hs : s.size ≤ 2000000) (he : Er w) :
  Calls Tryz.prog 193 #[.string s] w fun e w' => (∃ er, e = .returned (.tuple #[.int .i64 (bM s.data.toList), er])) ∧ Below w.heap.size w w' := by
 obtain ⟨t, p, t', p', h1, h2⟩ := he
 have hmax : s.size ≤ 9223372036854775806 := by omega
 have hlim : s.size ≤ 281474976710656 := by omega
 rcases hx : Lib.atoiAll s.data.toList with v | _ | _
 ·
  have e : bM s.data.toList = v := by unfold bM; rw [hx]
  rw [e]
  exact (Any.strconv_Atoi_ok Tryz.laysC172 s hmax v hx w).mono fun _ _ ⟨he, hw⟩ => ⟨⟨_, he⟩, by
   rcases hw with rfl | ⟨t, rfl⟩
   ·
    exact Below.refl _ _
   ·
    exact Lib.bytesWorld_below _ _ _⟩
 ·
  have e : bM s.data.toList = 0 := by unfold bM; rw [hx]
  rw [e]
  exact (Any.strconv_Atoi_syntax Tryz.laysC172 s hlim hx _ w h1 (Or.inr ⟨_, _, rfl⟩)).mono fun _ _ ⟨N, he, _, _, hb⟩ => ⟨⟨_, he⟩, hb⟩
 ·
  have e : bM s.data.toList = Lib.atoiSat s.data.toList := by unfold bM; rw [hx]
  rw [e]
  exact (Any.strconv_Atoi_range Tryz.laysC172 s hlim hx _ w h2 (Or.inr ⟨_, _, rfl⟩)).mono fun _ _ ⟨N, he, _, _, hb⟩ => ⟨⟨_, he⟩, hb⟩
def Ju (p : Lib.NumEnd Nat) : Prop := match p with
 | .ok u => u < 1000000000000
 | .range => False
 | _ => True
theorem zB : ∀ (l : List UInt8) (acc k : Nat), l.length ≤ k → k ≤ 12 → acc < 10 ^ (12 - k) → Ju (Lib.parseUint10 acc l)
 | [], acc, k, _, hk, ha => by
  show acc < 1000000000000
  have : 10 ^ (12 - k) ≤ 10 ^ 12 := Nat.pow_le_pow_right (by omega) (by omega)
  omega
 | b :: r, acc, k, hl, hk, ha => by
  unfold Lib.parseUint10
  by_cases hb : 48 ≤ b.toNat ∧ b.toNat ≤ 57
  ·
   obtain ⟨k, rfl⟩ : ∃ j, k = j + 1 := ⟨k - 1, by simp at hl; omega⟩
   have h12 : 10 ^ (12 - (k + 1)) ≤ 10 ^ 12 := Nat.pow_le_pow_right (by omega) (by omega)
   have e : 10 ^ (12 - k) = 10 ^ (12 - (k + 1)) * 10 := by rw [← Nat.pow_succ]; congr 1; omega
   rw [if_pos hb, if_neg (by omega), if_neg (by omega)]
   exact zB r _ k (by simpa using hl) (by omega) (by rw [e]; omega)
  ·
   rw [if_neg hb]; trivial
theorem zC {l : List UInt8} (h : l.length ≤ 12) : -1000000000000 ≤ bM l ∧ bM l ≤ 1000000000000 := by
 unfold bM Lib.atoiAll
 cases l with
 | nil => decide
 | cons b r =>
  have hp : Ju (Lib.parseMag (if b.toNat = 43 ∨ b.toNat = 45 then r else b :: r)) := by
   unfold Lib.parseMag
   by_cases h0 : (if b.toNat = 43 ∨ b.toNat = 45 then r else b :: r) = []
   ·
    rw [if_pos h0]; trivial
   ·
    rw [if_neg h0]
    refine zB _ 0 12 ?_ (by omega) (by decide)
    split
    ·
     simp at h; omega
    ·
     exact h
  simp only
  generalize Lib.parseMag (if b.toNat = 43 ∨ b.toNat = 45 then r else b :: r) = p at hp ⊢
  rcases p with u | _ | _
  ·
   have hu : u < 1000000000000 := hp
   simp only
   rw [if_neg (by omega), if_neg (by omega)]
   simp only
   split <;> omega
  ·
   simp
  ·
   exact hp.elim
theorem GN (s : ByteArray) (c : UInt8) (w : World) :
  Calls Tryz.prog 59 #[.string s, .string ⟨#[c]⟩] w fun e w' => e = .returned (.bool (Lib.hasPrefix s.data.toList [c])) ∧ w = w' :=
 (Tryz.strings_HasPrefix s ⟨#[c]⟩ w).mono fun _ _ ⟨he, hw⟩ => ⟨he, hw.symm⟩
theorem zO (s : ByteArray) (w : World) (hs : s.size ≤ 2000000) (hm : Mx w) (he : Er w) :
  Calls Tryz.prog 198 #[.string s] w fun e w' => e = .returned (.int .i64 (jc s.data.toList)) ∧ Below w.heap.size w w' := by
 have HM := qh hm
 have HE := qh he
 obtain ⟨neg, hneg⟩ := ae (Lib.hasPrefix s.data.toList [45])
 have HN := qh hneg
 clear hm he hneg
 go_enter Tryz.func198, Tryz.ntmps198
 go_wp2_with fail
 refine (GN s 45 w).mono ?_
 rw [HN.out]
 rintro e w1 ⟨rfl, rfl⟩
 go_wp2_with fail
 refine (vF s ⟨#[45]⟩ w).mono ?_
 rintro e w1 ⟨⟨d, rfl, hd⟩, rfl⟩
 have hdl : d.size ≤ s.size := by rw [fB hd]; exact Lib.trimPrefix_le _ _
 have HD := qh hd
 clear hd
 go_wp2_with fail
 refine (NG d 46 w (by omega) HM.out).mono ?_
 rintro e w1 ⟨⟨fr, pt, fd, rfl, hfr, hpt⟩, hb1⟩
 have Si := qh hfr
 have NH := qh hpt
 have HR := qh (show jc s.data.toList = if 4 < pt.size ∨ 12 < fr.size then 0 else if neg = true then -(bM fr.data.toList * 10000 + bM (pt.data.toList ++ zeros (4 - pt.size))) else bM fr.data.toList * 10000 + bM (pt.data.toList ++ zeros (4 - pt.size)) by
  unfold jc
  simp only []
  rw [← show d.data.toList = Lib.trimPrefix s.data.toList [45] from HD.out, ← hfr, ← hpt, HN.out]
  rfl)
 clear hfr hpt
 by_cases h4 : 4 < pt.size
 ·
  have HZ := qh (show jc s.data.toList = 0 by rw [HR.out, if_pos (.inl h4)])
  have b4 : decide ((4 : Int) < (pt.size : Nat)) = true := by simp; omega
  go_wp2
  go_ret
  exact ⟨eP (by rw [HZ.out]; rfl), hb1⟩
 have b4 : decide ((4 : Int) < (pt.size : Nat)) = false := by simp; omega
 by_cases h12 : 12 < fr.size
 ·
  have HZ := qh (show jc s.data.toList = 0 by rw [HR.out, if_pos (.inr h12)])
  have b12 : decide ((12 : Int) < (fr.size : Nat)) = true := by simp; omega
  go_wp2
  go_ret
  exact ⟨eP (by rw [HZ.out]; rfl), hb1⟩
 have b12 : decide ((12 : Int) < (fr.size : Nat)) = false := by simp; omega
 have HR := qh (show jc s.data.toList = if neg = true then -(bM fr.data.toList * 10000 + bM (pt.data.toList ++ zeros (4 - pt.size))) else bM fr.data.toList * 10000 + bM (pt.data.toList ++ zeros (4 - pt.size)) by
  rw [HR.out, if_neg (by omega)])
 obtain ⟨n, hn⟩ := ae (bM fr.data.toList)
 have zM := qh hn
 obtain ⟨bn1, ZG⟩ := zC (l := fr.data.toList) (show fr.size ≤ 12 by omega)
 rw [hn] at bn1 ZG
 clear hn
 go_wp2_with fail
 refine (pR fr w1 (by omega) (HE.out.below hb1)).mono ?_
 rw [zM.out]
 rintro e w2 ⟨⟨er, rfl⟩, hb2⟩
 have hbw := hb1.trans (hb2.mono hb1.size)
 clear hb1 hb2
 go_wp2_with fail
 rw [show (4 : Int) - pt.size = ((4 - pt.size : Nat) : Int) from by omega]
 refine (Cm _ w2 (by omega)).mono ?_
 rintro e w3 ⟨⟨z, rfl, hz⟩, hb3⟩
 have HZ := qh (show (pt ++ z : ByteArray).data.toList = pt.data.toList ++ zeros (4 - pt.size) by rw [aC, hz])
 have hzl : z.size = 4 - pt.size := by rw [fB hz]; simp [zeros]
 have aha : z.size ≤ 4 := by omega
 have hsum : (pt ++ z : ByteArray).size ≤ 12 := by rw [ByteArray.size_append]; omega
 obtain ⟨m, hmm⟩ := ae (bM (pt ++ z : ByteArray).data.toList)
 obtain ⟨bm1, bm2⟩ := zC (l := (pt ++ z : ByteArray).data.toList) hsum
 rw [hmm] at bm1 bm2
 have HMM := qh hmm
 have hbw := hbw.trans (hb3.mono hbw.size)
 clear hz hzl hb3 hmm
 go_wp2_with fail
 refine (pR (pt ++ z) w3 (by omega) (HE.out.below hbw)).mono ?_
 rw [HMM.out]
 rintro e w4 ⟨⟨er2, rfl⟩, hb4⟩
 have hbw := hbw.trans (hb4.mono hbw.size)
 have HF := qh (show jc s.data.toList = if neg = true then -(n * 10000 + m) else n * 10000 + m by rw [HR.out, zM.out, ← HZ.out, HMM.out])
 clear hsum hb4
 cases neg
 ·
  go_wp2
  go_ret
  exact ⟨eP (by rw [HF.out]; rfl), hbw⟩
 ·
  go_wp2
  go_ret
  exact ⟨eP (by rw [HF.out]; rfl), hbw⟩
structure CV (e : Ending) (w : World) (B : Nat) (s : List UInt8) : Prop where
 ex : ∃ (x : Val) (A : Option Addr) (c : Nat), e = .returned (.agg #[.int .i64 x.k, .int .i64 x.n, .string x.s, .slice A x.l.length c]) ∧ Reads w w.heap.size 1 A x.l.length (dS .i64 x.l) ∧ (∀ ad, A = some ad → B ≤ ad.block) ∧ x.l.length ≤ 4000000 ∧ x.s.size ≤ 4000000 ∧
  gZ s = ⟨x.k, x.n, x.s.data.toList, x.l⟩
theorem CV.plain {w : World} {B : Nat} {s : List UInt8} (k n : Int) (t : ByteArray) (ht : t.size ≤ 4000000) (h1 : gZ s = ⟨k, n, t.data.toList, []⟩) :
  CV (.returned (.agg #[.int .i64 k, .int .i64 n, .string t, .slice none 0 0])) w B s :=
 ⟨⟨⟨k, n, t, []⟩, none, 0, rfl, Reads.none_, (fun _ h => by cases h), by simp, ht, h1⟩⟩
structure NW (s : List UInt8) : Prop where
 a : s ≠ OC
 b : s ≠ OD
 c : s ≠ OE
theorem PU {s : List UInt8} {k : Nat} (h1 : 1 ≤ k) (h2 : k ≤ 3) (h : s = qm k) : gZ s = ⟨1, k, [], []⟩ := by
 subst h
 obtain rfl | rfl | rfl : k = 1 ∨ k = 2 ∨ k = 3 := by omega
 all_goals decide +kernel
theorem aap {s : List UInt8} {k : Nat} (hk : 4 ≤ k) (h : ∀ j : Nat, 1 ≤ j → j < k → s ≠ qm j) : NW s :=
 ⟨h 1 (by omega) (by omega), h 2 (by omega) (by omega), h 3 (by omega) (by omega)⟩
theorem PV {s : List UInt8} (h : NW s) (h1 : s = [45]) : gZ s = ⟨0, 0, [], []⟩ := by
 unfold gZ; rw [if_neg h.a, if_neg h.b, if_neg h.c, if_pos h1]
theorem PW {s : List UInt8} (h1 : s = iP) : gZ s = ⟨7, 1, [], []⟩ := by subst h1; decide +kernel
theorem LK {s : List UInt8} (h1 : s = dV) : gZ s = ⟨7, 0, [], []⟩ := by subst h1; decide +kernel
structure Od (s : List UInt8) : Prop where
 w : NW s
 b : s ≠ [45]
 c : s ≠ iP
 d : s ≠ dV
theorem Ue {s : List UInt8} (h : Od s) : gZ s =
 if 1 < s.length ∧ s.head? = some 39 then ⟨3, 0, Lib.replaceAll ((s.take (s.length - 1)).drop 1) [39, 39] [39], []⟩ else
 if s.head? = some 35 then ⟨4, bM s.tail, [], []⟩ else
 if s.head? = some 123 then ⟨5, 0, [], lH (Lib.split (Lib.trimS s [123, 125]) [44])⟩ else
 if s.length = 11 ∧ s.head? = some 64 then
  ⟨Nw (bM ((s.take 5).drop 1)) (bM ((s.take 8).drop 6)) (bM (s.drop 9)), Ny (bM ((s.take 5).drop 1)) (bM ((s.take 8).drop 6)) (bM (s.drop 9)), [], []⟩ else
 ⟨2, jc s, [], []⟩ := by
 rw [gZ, if_neg h.w.a, if_neg h.w.b, if_neg h.w.c, if_neg h.b, if_neg h.c, if_neg h.d]
theorem zD (l : List UInt8) (c : UInt8) : Lib.hasPrefix l [c] = decide (l.head? = some c) := by
 cases l with
 | nil => simp [Lib.hasPrefix]
 | cons b r =>
  simp only [Lib.hasPrefix, List.isPrefixOf, List.head?_cons, Option.some.injEq]
  by_cases h : b = c
  ·
   subst h; simp
  ·
   simp [h, Ne.symm h]
theorem Wx (n : Nat) (w : World) (h1 : 1 ≤ n) (h2 : n ≤ 3) :
  Calls Tryz.prog 192 #[.int .i64 (n : Nat)] w fun e w' => (∃ t : ByteArray, e = .returned (.string t) ∧ t.data.toList = qm n) ∧ w = w' :=
 (CB n w (by omega) (by omega)).mono fun _ _ ⟨he, hw⟩ => ⟨⟨_, he, rfl⟩, hw⟩
theorem Uf (s : ByteArray) (w : World) (hs : s.size ≤ 2000000) :
  Calls Tryz.prog 195 #[.string s, .string ⟨#[123, 125]⟩] w fun e w' => (∃ t : ByteArray, e = .returned (.string t) ∧ t.data.toList = Lib.trimS s.data.toList [123, 125]) ∧ Below w.heap.size w w' :=
 (Any.strings_Trim_laid Tryz.lays160 (by kernel_rfl) s ⟨#[123, 125]⟩ w (by omega) (by decide) (ascii_of_all (by decide))).mono fun _ _ ⟨he, hb⟩ => ⟨⟨_, he, rfl⟩, hb⟩
theorem Jv (ps : List (List UInt8)) (p : List UInt8) : lH (ps ++ [p]) = lH ps ++ (if p = [] then [] else [bM (Lib.trimPrefix p [35])]) := by
 unfold lH
 rw [List.filter_append]
 by_cases h : p = []
 ·
  simp [h]
 ·
  simp [h]
theorem GR (s : ByteArray) (i j : Nat) : (s.extract i j).data.toList = (s.data.toList.take j).drop i := by rw [Lib.extract_data, List.drop_take]
theorem FB (sep : List UInt8) (save : Nat) : ∀ (k : Nat) (l : List UInt8), ∀ p ∈ Lib.splitK sep save k l, p.length ≤ l.length
 | 0, l => fun p hp => by
  rw [Lib.splitK, List.mem_singleton] at hp
  rw [hp]
  exact Nat.le_refl _
 | k + 1, l => fun p hp => by
  rw [Lib.splitK] at hp
  split at hp
  ·
   rw [List.mem_singleton] at hp
   rw [hp]
   exact Nat.le_refl _
  ·
   rcases List.mem_cons.1 hp with h | h
   ·
    rw [h, List.length_take]; exact Nat.min_le_right _ _
   ·
    have := FB sep save k _ p h
    rw [List.length_drop] at this
    omega
theorem Jw (l sep : List UInt8) : ∀ p ∈ Lib.split l sep, p.length ≤ l.length := FB sep 0 _ l
theorem Jy (l cs : List UInt8) : (Lib.trimS l cs).length ≤ l.length := by
 unfold Lib.trimS Lib.trimLeftS Lib.trimRightS
 have h1 := (List.dropWhile_suffix (cs.contains ·) (l := l.reverse)).length_le
 have h2 := (List.dropWhile_suffix (cs.contains ·) (l := (List.dropWhile (cs.contains ·) l.reverse).reverse)).length_le
 simp only [List.length_reverse] at h1 h2
 omega
theorem Ug (s : ByteArray) (w : World) (hs : s.size ≤ 2000000) (hm : Mx w) (he : Er w) :
  Calls Tryz.prog 179 #[.string s] w fun e w' => CV e w' w.heap.size s.data.toList ∧ Below w.heap.size w w' := by
 have HM := qh hm
 have HE := qh he
 clear hm he
 obtain ⟨i0, hi0, hz0, hz1, hz2⟩ := info_parts NR
 go_enter Tryz.func179, Tryz.ntmps179
 go_wp2_with fail
 obtain ⟨W, hW⟩ := au ((w.alloc (.cells #[.int .i64 0, .int .i64 0, .string ⟨#[]⟩, .slice none 0 0] 24 (0, 0))))
 have hbw : Below w.heap.size w W := by rw [hW]; exact ((Below.refl _ w).alloc (Nat.le_refl _) _)
 have B0 : af W (w.heap.size) 24 #[.int .i64 0, .int .i64 0, .string ⟨#[]⟩, .slice none 0 0] := by
  rw [hW]
  have := af.new w 24 #[.int .i64 0, .int .i64 0, .string ⟨#[]⟩, .slice none 0 0]
  exact this
 have hsz : W.heap.size = w.heap.size + 1 := by rw [hW]; simp
 rw [← hW]
 clear hW hsz
 obtain ⟨aQ, eX, aS, eY, aT, fD, aU, fE⟩ := af.z4 B0
 go_loop [3] (fun i => ∃ k : Nat, 1 ≤ k ∧ k ≤ 4 ∧ i = .int .i64 k ∧ Hid (∀ j : Nat, 1 ≤ j → j < k → s.data.toList ≠ qm j)) (fun i => 5 - (intOf i).toNat)
 case atStart => exact ⟨1, by omega, by omega, rfl, qh (fun j h1 h2 => by omega)⟩
 case round =>
  obtain ⟨k, hk1, hk4, rfl, HJ⟩ := hrel
  by_cases hk3 : k ≤ 3
  ·
   go_wp2_with fail
   refine (Wx k W hk1 hk3).mono ?_
   rintro e w1 ⟨⟨t, rfl, ht⟩, rfl⟩
   have jf := qh ht
   clear ht
   by_cases hst : s = t
   ·
    have b0 : (s.toList == t.toList) = true := jg hst
    have HC := qh (PU (s := s.data.toList) hk1 hk3 (by rw [hst]; exact jf.out))
    clear hst
    go_wp2
    obtain ⟨W9, dI, B9, di⟩ := bG B0 hbw (.int .i64 1) (.int .i64 (k : Nat)) (.string ⟨#[]⟩) (.slice none 0 0)
    rw [← dI]
    clear dI
    obtain ⟨iW, qc1, qc2, qc3⟩ := af.c4 B9
    refine bodyPost_ret (v := .agg #[.int .i64 1, .int .i64 (k : Nat), .string ⟨#[]⟩, .slice none 0 0]) (by simp [results, Tryz.results179, go_sem, iW, qc1, qc2, qc3]) rfl ⟨CV.plain 1 ((k : Nat)) ⟨#[]⟩ (by decide) HC.out, di⟩
   ·
    have b0 : (s.toList == t.toList) = false := bZ hst
    have HJ2 := qh (show ∀ j : Nat, 1 ≤ j → j < k + 1 → s.data.toList ≠ qm j from fun j h1 h2 e => by
     rcases Nat.lt_or_ge j k with h | h
     ·
      exact HJ.out j h1 h e
     ·
      obtain rfl : j = k := by omega
      exact hst ((nV (e.trans jf.out.symm)).trans (nV (t := t) rfl).symm))
    clear hst
    go_wp2
    go_round
    case rel => exact ⟨k + 1, by omega, by omega, by go_num, HJ2⟩
    case measure => simp [intOf]; omega
  have HNW := qh (aap (by omega) HJ.out)
  obtain rfl : k = 4 := by omega
  clear HJ hk1 hk4 hk3
  by_cases h1 : s.data.toList = [45]
  ·
   have e2 : (s.toList == [45]) = true := by rw [ByteArray.toList_eq, beq_iff_eq]; exact h1
   have HC := qh (PV HNW.out h1)
   clear h1
   go_wp2
   obtain ⟨W9, dI, B9, di⟩ := bG B0 hbw (.int .i64 0) (.int .i64 0) (.string ⟨#[]⟩) (.slice none 0 0)
   rw [← dI]
   clear dI
   obtain ⟨iW, qc1, qc2, qc3⟩ := af.c4 B9
   refine bodyPost_ret (v := .agg #[.int .i64 0, .int .i64 0, .string ⟨#[]⟩, .slice none 0 0]) (by simp [results, Tryz.results179, go_sem, iW, qc1, qc2, qc3]) rfl ⟨CV.plain 0 (0) ⟨#[]⟩ (by decide) HC.out, di⟩
  have e2 : (s.toList == [45]) = false := by rw [ByteArray.toList_eq, beq_eq_false_iff_ne]; exact h1
  by_cases h2 : s.data.toList = iP
  ·
   have e3 : (s.toList == [116, 114, 117, 101]) = true := by rw [ByteArray.toList_eq, beq_iff_eq]; exact h2
   have HC := qh (PW h2)
   clear h1 h2
   go_wp2
   obtain ⟨W9, dI, B9, di⟩ := bG B0 hbw (.int .i64 7) (.int .i64 1) (.string ⟨#[]⟩) (.slice none 0 0)
   rw [← dI]
   clear dI
   obtain ⟨iW, qc1, qc2, qc3⟩ := af.c4 B9
   refine bodyPost_ret (v := .agg #[.int .i64 7, .int .i64 1, .string ⟨#[]⟩, .slice none 0 0]) (by simp [results, Tryz.results179, go_sem, iW, qc1, qc2, qc3]) rfl ⟨CV.plain 7 (1) ⟨#[]⟩ (by decide) HC.out, di⟩
  have e3 : (s.toList == [116, 114, 117, 101]) = false := by rw [ByteArray.toList_eq, beq_eq_false_iff_ne]; exact h2
  by_cases h3 : s.data.toList = dV
  ·
   have e4 : (s.toList == [102, 97, 108, 115, 101]) = true := by rw [ByteArray.toList_eq, beq_iff_eq]; exact h3
   have HC := qh (LK h3)
   clear h1 h2 h3
   go_wp2
   obtain ⟨W9, dI, B9, di⟩ := bG B0 hbw (.int .i64 7) (.int .i64 0) (.string ⟨#[]⟩) (.slice none 0 0)
   rw [← dI]
   clear dI
   obtain ⟨iW, qc1, qc2, qc3⟩ := af.c4 B9
   refine bodyPost_ret (v := .agg #[.int .i64 7, .int .i64 0, .string ⟨#[]⟩, .slice none 0 0]) (by simp [results, Tryz.results179, go_sem, iW, qc1, qc2, qc3]) rfl ⟨CV.plain 7 (0) ⟨#[]⟩ (by decide) HC.out, di⟩
  have e4 : (s.toList == [102, 97, 108, 115, 101]) = false := by rw [ByteArray.toList_eq, beq_eq_false_iff_ne]; exact h3
  have HOD := qh (Ue ⟨HNW.out, h1, h2, h3⟩)
  have HH := qh (fun h : 0 < s.size => Gz h)
  clear h1 h2 h3 HNW
  have hsl : s.data.toList.length = s.size := rfl
  have QV := qh hsl
  clear hsl
  have hxl : (s.extract 1 s.size).size ≤ 2000000 := by rw [ByteArray.size_extract]; omega
  have HX := qh (show (s.extract 1 s.size).data.toList = s.data.toList.tail by
   rw [Lib.extract_data, List.take_of_length_le (by simp), List.drop_one])
  by_cases hA : 1 < s.size ∧ s.data.toList.head? = some 39
  ·
   obtain ⟨hA1, hA2⟩ := hA
   have hp : 0 < s.size := by omega
   have b39 : (((s[0].toNat : Nat) : Int) == 39) = true := by
    have h := HH.out hp
    rw [hA2] at h
    injection h with h
    rw [← h]; decide
   have HC := qh (show gZ s.data.toList = ⟨3, 0, Lib.replaceAll ((s.data.toList.take (s.size - 1)).drop 1) [39, 39] [39], []⟩ by
    rw [HOD.out, if_pos ⟨by rw [QV.out]; exact hA1, hA2⟩, QV.out])
   clear hA2 HOD
   go_wp2_with fail
   refine (mP (s.extract 1 (s.size - 1)) ⟨#[39, 39]⟩ ⟨#[39]⟩ W (by rw [ByteArray.size_extract]; omega) (by decide) (by decide) (HM.out.below hbw)).mono ?_
   rintro e w1 ⟨⟨t, rfl, ht⟩, hb1⟩
   have hl2 : t.size ≤ 4000000 := by
    rw [fB ht]
    have := NU (s.extract 1 (s.size - 1)).data.toList
    have h2 : (s.extract 1 (s.size - 1)).data.toList.length = (s.extract 1 (s.size - 1)).size := rfl
    have h3 : (s.extract 1 (s.size - 1)).size ≤ 2000000 := by rw [ByteArray.size_extract]; omega
    show (Lib.replaceAll (s.extract 1 (s.size - 1)).data.toList [39, 39] [39]).length ≤ _
    omega
   have HC2 := qh (show gZ s.data.toList = ⟨3, 0, t.data.toList, []⟩ by rw [HC.out, ht, GR])
   have B0 := B0.below hb1 B0.lt
   have hbw := hbw.trans (hb1.mono hbw.size)
   clear ht hb1 HC aQ eX aS eY aT fD aU fE
   obtain ⟨aQ, eX, aS, eY, aT, fD, aU, fE⟩ := af.z4 B0
   go_wp2
   obtain ⟨W9, dI, B9, di⟩ := bG B0 hbw (.int .i64 3) (.int .i64 0) (.string t) (.slice none 0 0)
   rw [← dI]
   clear dI
   obtain ⟨iW, qc1, qc2, qc3⟩ := af.c4 B9
   refine bodyPost_ret (v := .agg #[.int .i64 3, .int .i64 0, .string t, .slice none 0 0]) (by simp [results, Tryz.results179, go_sem, iW, qc1, qc2, qc3]) rfl ⟨CV.plain 3 (0) t hl2 HC2.out, di⟩
  have Wy := qh (show gZ s.data.toList = _ by rw [HOD.out, if_neg (by rw [QV.out]; exact hA)])
  clear HOD
  go_upto_region 12 with (fail)
  go_cut [39] (fun v wx => v = .bool false ∧ W = wx)
  case first =>
   by_cases hA1 : 1 < s.size
   ·
    have hp : 0 < s.size := by omega
    have b39 : (((s[0].toNat : Nat) : Int) == 39) = false := by
     rw [beq_eq_false_iff_ne]
     intro h
     exact hA ⟨hA1, head_eq (c := 39) hp h⟩
    clear hA
    go_wp2_with (fail)
    go_meet
    exact ⟨rfl, rfl⟩
   ·
    clear hA
    go_wp2_with (fail)
    go_meet
    exact ⟨rfl, rfl⟩
  case rest =>
  obtain ⟨rfl, rfl⟩ := hcut
  clear hA
  go_wp2_with fail
  refine (GN s 35 W).mono ?_
  rw [zD]
  by_cases h35 : s.data.toList.head? = some 35
  ·
   rw [decide_eq_true h35]
   rintro e w1 ⟨rfl, rfl⟩
   have hp : 1 ≤ s.size := by
    rcases Nat.eq_zero_or_pos s.size with h | h
    ·
     rw [List.eq_nil_of_length_eq_zero (QV.out.trans h)] at h35; cases h35
    ·
     exact h
   have HC := qh (show gZ s.data.toList = ⟨4, bM s.data.toList.tail, [], []⟩ by rw [Wy.out, if_pos h35])
   clear h35 Wy
   go_wp2_with fail
   refine (pR (s.extract 1 s.size) W hxl (HE.out.below hbw)).mono ?_
   obtain ⟨n, hn⟩ := ae (bM s.data.toList.tail)
   have HN := qh hn
   rw [HX.out, hn]
   clear hn
   rintro e w1 ⟨⟨er, rfl⟩, hb1⟩
   have B0 := B0.below hb1 B0.lt
   have hbw := hbw.trans (hb1.mono hbw.size)
   clear hb1 aQ eX aS eY aT fD aU fE
   obtain ⟨aQ, eX, aS, eY, aT, fD, aU, fE⟩ := af.z4 B0
   go_wp2
   obtain ⟨W9, dI, B9, di⟩ := bG B0 hbw (.int .i64 4) (.int .i64 n) (.string ⟨#[]⟩) (.slice none 0 0)
   rw [← dI]
   clear dI
   obtain ⟨iW, qc1, qc2, qc3⟩ := af.c4 B9
   refine bodyPost_ret (v := .agg #[.int .i64 4, .int .i64 n, .string ⟨#[]⟩, .slice none 0 0]) (by simp [results, Tryz.results179, go_sem, iW, qc1, qc2, qc3]) rfl ⟨CV.plain 4 (n) ⟨#[]⟩ (by decide) (by rw [HC.out, HN.out]), di⟩
  have WA := qh (show gZ s.data.toList = _ by rw [Wy.out, if_neg h35])
  rw [decide_eq_false h35]
  rintro e w1 ⟨rfl, rfl⟩
  clear Wy h35
  go_wp2_with fail
  refine (GN s 123 W).mono ?_
  rw [zD]
  by_cases fJ : s.data.toList.head? = some 123
  ·
   rw [decide_eq_true fJ]
   rintro e w1 ⟨rfl, rfl⟩
   have HC := qh (show gZ s.data.toList = ⟨5, 0, [], lH (Lib.split (Lib.trimS s.data.toList [123, 125]) [44])⟩ by rw [WA.out, if_pos fJ])
   clear fJ WA
   go_wp2_with fail
   obtain ⟨W2, hW2⟩ := au (W.alloc (.cells #[.int .i64 5, .int .i64 0, .string ⟨#[]⟩, .slice none 0 0] 24 (0, 0)))
   have hb2 : Below W.heap.size W W2 := hW2 ▸ (Below.refl _ W).alloc (Nat.le_refl _) _
   have B1 : af W2 W.heap.size 24 #[.int .i64 5, .int .i64 0, .string ⟨#[]⟩, .slice none 0 0] := hW2 ▸ af.new W _ _
   rw [← hW2]
   have hlt0 := B0.lt
   have B0 := B0.below hb2 B0.lt
   have hbw := hbw.trans (hb2.mono hbw.size)
   clear hW2 hb2 aQ eX aS eY aT fD aU fE
   refine (Uf s W2 hs).mono ?_
   rintro e w1 ⟨⟨t, rfl, ht⟩, hb1⟩
   have htl : t.size ≤ 2000000 := by
    rw [fB ht]
    have := Jy s.data.toList [123, 125]
    rw [QV.out] at this
    omega
   have jf := qh ht
   have B0 := B0.below hb1 B0.lt
   have B1 := B1.below hb1 B1.lt
   have hbw := hbw.trans (hb1.mono hbw.size)
   clear ht hb1
   go_wp2_with fail
   refine (vG t 44 w1 htl (HM.out.below hbw)).mono ?_
   rintro e w2 ⟨ps, rfl, hw2, hps, hpl⟩
   have hb1 : Below w1.heap.size w1 w2 := hw2 ▸ (Below.refl _ w1).alloc (Nat.le_refl _) _
   have hsz1 : w2.heap.size = w1.heap.size + 1 := by rw [hw2]; simp
   have B2 : af w2 w1.heap.size 9 (ps.map Value.string).toArray := hw2 ▸ af.new w1 _ _
   have HC2 := qh (show gZ s.data.toList = ⟨5, 0, [], lH (ps.map (·.data.toList))⟩ by rw [HC.out, ← jf.out, ← hps])
   have ZC := qh (show ∀ p ∈ ps, p.data.toList.length ≤ 2000000 from fun p hp => by
    have h := Jw t.data.toList [44] p.data.toList (by rw [← hps]; exact List.mem_map.2 ⟨p, hp, rfl⟩)
    have h2 : t.data.toList.length = t.size := rfl
    omega)
   have hW1 : W.heap.size < w1.heap.size := B1.lt
   have B0 := B0.below hb1 B0.lt
   have B1 := B1.below hb1 B1.lt
   have hbw := hbw.trans (hb1.mono hbw.size)
   have hpm : ps.length ≤ 2000001 := by omega
   have hlt1 : w1.heap.size < w2.heap.size := by omega
   have HB0 := qh B0
   have HB1 := qh B1
   have HB2 := qh B2
   have hg0 : w.heap.size < w2.heap.size := B0.lt
   have hg1 : W.heap.size < w2.heap.size := B1.lt
   clear hps hw2 hb1 hpl hsz1 B0 B1 B2 HC jf
   go_wp2
   go_loopw [74] (fun i wr => ∃ (k : Nat) (v : Value) (xs : List Int), k ≤ ps.length ∧ i = .int .i64 k ∧ Hid (af wr w.heap.size 24 #[.int .i64 0, .int .i64 0, .string ⟨#[]⟩, .slice none 0 0]) ∧ Hid (af wr W.heap.size 24 #[.int .i64 5, .int .i64 0, .string ⟨#[]⟩, v]) ∧ Hid (af wr w1.heap.size 9 (ps.map Value.string).toArray) ∧
     Hid (wr.ownsRow w2.heap.size 3 1 v xs.length (dS .i64 xs)) ∧ Hid (xs = lH ((ps.map (·.data.toList)).take k)) ∧ xs.length ≤ k ∧ Below w.heap.size w wr ∧ w2.heap.size ≤ wr.heap.size) (fun i _ => ps.length - (intOf i).toNat)
   case atStart => exact ⟨0, _, [], Nat.zero_le _, rfl, HB0, HB1, HB2, qh (World.ownsRow_nil _ _ _ _), qh rfl, Nat.le_refl _, hbw, Nat.le_refl _⟩
   case round =>
    obtain ⟨k, v, xs, hk, rfl, B0, B1, B2, HO, Ii, hxk, hbr, tV⟩ := hrel
    clear HB0 HB1 HB2
    obtain ⟨-, A, c, rfl, -⟩ := BF HO.out
    by_cases hlt : k < ps.length
    ·
     obtain ⟨p, hp⟩ := ae (ps[k])
     have pc : wr.cell? ⟨w1.heap.size, k, none⟩ = some (.string p) := by rw [B2.out.cell k]; simp [hlt, hp]
     have HD := qh (show lH ((ps.map (·.data.toList)).take (k + 1)) = xs ++ (if p.data.toList = [] then [] else [bM (Lib.trimPrefix p.data.toList [35])]) by
      rw [List.take_succ_eq_append_getElem (by simpa using hlt), Jv, List.getElem_map, hp, ← Ii.out])
     have hpb : p.data.toList.length ≤ 2000000 := ZC.out p (by rw [← hp]; exact List.getElem_mem _)
     clear hp Ii
     by_cases hp0 : p = ⟨#[]⟩
     ·
      have se : p.toList.isEmpty = true := by rw [hp0, ByteArray.toList_eq]; rfl
      have HD2 := qh (show xs = lH ((ps.map (·.data.toList)).take (k + 1)) by rw [HD.out, hp0]; simp)
      clear hp0 HD
      go_wp2
      go_roundw
      case rel => exact ⟨k + 1, _, xs, by omega, by go_num, B0, B1, B2, HO, HD2, by omega, hbr, tV⟩
      case measure => simp [intOf]; omega
     ·
      have hne : p.data.toList ≠ [] := fun e => hp0 (nV e)
      have se : p.toList.isEmpty = false := by rw [ByteArray.toList_eq]; simpa using hne
      have HD2 := qh (show lH ((ps.map (·.data.toList)).take (k + 1)) = xs ++ [bM (Lib.trimPrefix p.data.toList [35])] by rw [HD.out, if_neg hne])
      clear hp0 HD hne
      go_wp2_with fail
      refine (vF p ⟨#[35]⟩ wr).mono ?_
      rintro e w3 ⟨⟨q, rfl, hq⟩, rfl⟩
      obtain ⟨a, ha⟩ := ae (bM q.data.toList)
      have HA := qh ha
      have HD3 := qh (show xs ++ [a] = lH ((ps.map (·.data.toList)).take (k + 1)) by rw [HD2.out, ← ha, hq])
      have hql : q.size ≤ 2000000 := by rw [fB hq]; exact Nat.le_trans (Lib.trimPrefix_le _ _) hpb
      clear hq ha pc HD2
      go_wp2_with fail
      refine (pR q wr hql (HE.out.below hbr)).mono ?_
      rw [HA.out]
      rintro e w3 ⟨⟨er, rfl⟩, hb3⟩
      clear HA
      have XG := qh (own_below HO.out hb3)
      have B0 := B0.out.below hb3 (by omega)
      have B1 := B1.out.below hb3 (by omega)
      have B2 := B2.out.below hb3 (by omega)
      have hbr := hbr.trans (hb3.mono hbr.size)
      have tV : w2.heap.size ≤ w3.heap.size := Nat.le_trans tV hb3.size
      have yH := qh (show ∀ g, Value.ownBlock (.slice A xs.length c) = some g → w2.heap.size ≤ g from fun g hg => (XG.out.lt g hg).1)
      clear hb3 HO
      obtain ⟨rf, Vl, ug, Vm, uh, Vo, sH, Q7⟩ := af.z4 B1
      go_wp2_with (at_builtin; refine wpList_append_own _ rfl _ _ 22 rfl w2.heap.size 3 i0 (.int .i64 0) 1 8 Tryz.underlying22 hi0 hz0 hz1 hz2 rfl (by decide) _ _ _ rfl (XG.out.alloc _) ⟨w3.heap.size, 0, none⟩ 1 1 [.int .i64 a] rfl rfl ?c1 ?c2 ?c3 ?c4 ?c5 ?_)
      case c1 => intro j u hj; cases j <;> simp_all [go_sem]
      case c2 => intro u hu; simp only [List.mem_singleton] at hu; subst hu; rfl
      case c3 => unfold maxLen; omega
      case c4 => omega
      case c5 => simp; omega
      intro v2 w4 hown4 hg4 _
      have hs4 : w3.heap.size + 1 ≤ w4.heap.size := by have := hg4.size; simpa using this
      have B0' : af w4 w.heap.size 24 #[.int .i64 0, .int .i64 0, .string ⟨#[]⟩, .slice none 0 0] := (B0.alloc _).grown hg4 (fun e => by have := yH.out _ e.symm; omega)
      have Yt : af w4 W.heap.size 24 #[.int .i64 5, .int .i64 0, .string ⟨#[]⟩, .slice A xs.length c] := (B1.alloc _).grown hg4 (fun e => by have := yH.out _ e.symm; omega)
      have B2' : af w4 w1.heap.size 9 (ps.map Value.string).toArray := (B2.alloc _).grown hg4 (fun e => by have := yH.out _ e.symm; omega)
      have hb4 : Below w.heap.size w w4 := (hbr.alloc (by omega) _).grown hg4 (by simp; omega) (fun g hg => by have := yH.out g hg; omega)
      have Jz := qh (show w4.ownsRow w2.heap.size 3 1 v2 (xs ++ [a]).length (dS .i64 (xs ++ [a])) by rw [Fj, List.length_append]; exact hown4)
      obtain ⟨ao, n', cap, rfl⟩ : ∃ ao n' cap, v2 = .slice ao n' cap := by
       rcases hown4.2 with ⟨hv, _⟩ | ⟨g, cap, cur, hv, _⟩
       ·
        exact ⟨_, _, _, hv⟩
       ·
        exact ⟨_, _, _, hv⟩
      clear hown4 hg4 rf Vl ug Vm uh Vo sH Q7
      have sH : w4.cell? ⟨W.heap.size, 3, none⟩ = some (.slice A xs.length c) := Yt.cell 3
      have Q7 : w4.frozen? ⟨W.heap.size, 3, none⟩ = false := Yt.frozen 3
      go_wp2
      go_roundw
      case rel => exact ⟨k + 1, _, xs ++ [a], by omega, by go_num, qh (B0'.far (p := ⟨W.heap.size, 3, none⟩) (by show w.heap.size ≠ W.heap.size; omega) _), qh (Yt.kE 3 _), qh (B2'.far (p := ⟨W.heap.size, 3, none⟩) (by show w1.heap.size ≠ W.heap.size; omega) _), qh (ku Jz.out hg1 _), HD3, by rw [List.length_append]; show _ + 1 ≤ _; omega, hb4.setCell (p := ⟨W.heap.size, 3, none⟩) (by show w.heap.size ≤ W.heap.size; omega) _, by simp [World.setCell]; omega⟩
      case measure => simp [intOf]; omega
    ·
     have HF := qh (show gZ s.data.toList = ⟨5, 0, [], xs⟩ by
      rw [HC2.out, Ii.out, List.take_of_length_le (by simp; omega)])
     have hxl : xs.length ≤ 4000000 := by omega
     have B0 := B0.out
     have B1 := B1.out
     obtain ⟨aQ, eX, aS, eY, aT, fD, aU, fE⟩ := af.z4 B0
     obtain ⟨rf, Vl, ug, Vm, uh, Vo, sH, Q7⟩ := af.z4 B1
     clear Ii
     go_wp2
     obtain ⟨W9, dI, B9, di⟩ := bG B0 hbr (.int .i64 5) (.int .i64 0) (.string ⟨#[]⟩) (.slice A xs.length c)
     have XF := qh (dI ▸ ku (ku (ku (ku HO.out hg0 _) hg0 _) hg0 _) hg0 _ : W9.ownsRow w2.heap.size 3 1 (.slice A xs.length c) xs.length (dS .i64 xs))
     rw [← dI]
     clear dI
     obtain ⟨iW, qc1, qc2, qc3⟩ := af.c4 B9
     refine bodyPost_ret (v := .agg #[.int .i64 5, .int .i64 0, .string ⟨#[]⟩, .slice A xs.length c]) (by simp [results, Tryz.results179, go_sem, iW, qc1, qc2, qc3]) rfl ⟨⟨⟨⟨5, 0, ⟨#[]⟩, xs⟩, A, c, rfl, (oW XF.out).1, (fun ad h => Nat.le_of_lt (Nat.lt_of_lt_of_le hg0 ((oW XF.out).2 ad h))), hxl, (by show (0 : Nat) ≤ _; omega), HF.out⟩⟩, di⟩
  have WB := qh (show gZ s.data.toList = _ by rw [WA.out, if_neg fJ])
  rw [decide_eq_false fJ]
  rintro e w1 ⟨rfl, rfl⟩
  clear WA fJ
  by_cases hA : s.size = 11 ∧ s.data.toList.head? = some 64
  ·
   obtain ⟨hA1, hA2⟩ := hA
   have hp : 0 < s.size := by omega
   have b64 : (((s[0].toNat : Nat) : Int) == 64) = true := by
    have h := HH.out hp
    rw [hA2] at h
    injection h with h
    rw [← h]; decide
   have b11 : (((s.size : Nat) : Int) == 11) = true := by simp; omega
   have HC := qh (show gZ s.data.toList = _ by rw [WB.out, if_pos ⟨by rw [QV.out]; exact hA1, hA2⟩])
   have l11 : s.size ≤ 11 := by omega
   have g11 : 11 ≤ s.size := by omega
   clear hA1 hA2 WB
   go_wp2_with fail
   clear aQ eX aS eY aT fD aU fE
   refine (pR (s.extract 1 5) W (by rw [ByteArray.size_extract]; omega) (HE.out.below hbw)).mono ?_
   obtain ⟨y, hy⟩ := ae (bM ((s.data.toList.take 5).drop 1))
   have HNy := qh hy
   rw [show (s.extract 1 5).data.toList = (s.data.toList.take 5).drop 1 from GR _ _ _, hy]
   clear hy
   rintro e wWy ⟨⟨ery, rfl⟩, hb1⟩
   have B0 := B0.below hb1 B0.lt
   have hbw := hbw.trans (hb1.mono hbw.size)
   clear hb1
   go_wp2_with fail
   refine (pR (s.extract 6 8) wWy (by rw [ByteArray.size_extract]; omega) (HE.out.below hbw)).mono ?_
   obtain ⟨m, hm⟩ := ae (bM ((s.data.toList.take 8).drop 6))
   have HNm := qh hm
   rw [show (s.extract 6 8).data.toList = (s.data.toList.take 8).drop 6 from GR _ _ _, hm]
   clear hm
   rintro e aaq ⟨⟨erm, rfl⟩, hb1⟩
   have B0 := B0.below hb1 B0.lt
   have hbw := hbw.trans (hb1.mono hbw.size)
   clear hb1
   go_wp2_with fail
   refine (pR (s.extract 9 s.size) aaq (by rw [ByteArray.size_extract]; omega) (HE.out.below hbw)).mono ?_
   obtain ⟨d, hd⟩ := ae (bM (s.data.toList.drop 9))
   have HNd := qh hd
   rw [show (s.extract 9 s.size).data.toList = s.data.toList.drop 9 from (by rw [GR, List.take_of_length_le (Nat.le_of_eq QV.out)]), hd]
   clear hd
   rintro e WC ⟨⟨erd, rfl⟩, hb1⟩
   have B0 := B0.below hb1 B0.lt
   have hbw := hbw.trans (hb1.mono hbw.size)
   clear hb1
   go_wp2_with fail
   refine (OT y m d WC).mono ?_
   obtain ⟨K, hK⟩ := ae (dk y m d)
   obtain ⟨N, hN⟩ := ae (dn y m d)
   have HF := qh (show gZ s.data.toList = ⟨K, N, [], []⟩ by rw [HC.out, HNy.out, HNm.out, HNd.out, ← hK, ← hN]; rfl)
   rw [hK, hN]
   clear hK hN HC
   rintro e w9 ⟨rfl, hb1⟩
   have B0 := B0.below hb1 B0.lt
   have hbw := hbw.trans (hb1.mono hbw.size)
   clear hb1
   obtain ⟨aQ, eX, aS, eY, aT, fD, aU, fE⟩ := af.z4 B0
   go_wp2
   obtain ⟨W9, dI, B9, di⟩ := bG B0 hbw (.int .i64 K) (.int .i64 N) (.string ⟨#[]⟩) (.slice none 0 0)
   rw [← dI]
   clear dI
   obtain ⟨iW, qc1, qc2, qc3⟩ := af.c4 B9
   refine bodyPost_ret (v := .agg #[.int .i64 K, .int .i64 N, .string ⟨#[]⟩, .slice none 0 0]) (by simp [results, Tryz.results179, go_sem, iW, qc1, qc2, qc3]) rfl ⟨CV.plain K (N) ⟨#[]⟩ (by decide) HF.out, di⟩
  have adf := qh (show gZ s.data.toList = ⟨2, jc s.data.toList, [], []⟩ by rw [WB.out, if_neg (by rw [QV.out]; exact hA)])
  clear WB
  go_upto_region 27 with (fail)
  go_cut [94] (fun v wx => v = .bool false ∧ W = wx)
  case first =>
   by_cases hA1 : s.size = 11
   ·
    have hp : 0 < s.size := by omega
    have b11 : (((s.size : Nat) : Int) == 11) = true := by simp; omega
    have b64 : (((s[0].toNat : Nat) : Int) == 64) = false := by
     rw [beq_eq_false_iff_ne]
     intro h
     exact hA ⟨hA1, head_eq (c := 64) hp h⟩
    clear hA hA1
    go_wp2_with (fail)
    go_meet
    exact ⟨rfl, rfl⟩
   ·
    have b11 : (((s.size : Nat) : Int) == 11) = false := by simp; omega
    clear hA hA1
    go_wp2_with (fail)
    go_meet
    exact ⟨rfl, rfl⟩
  case rest =>
  obtain ⟨rfl, rfl⟩ := hcut
  clear hA
  go_wp2_with fail
  refine (zO s W hs (HM.out.below hbw) (HE.out.below hbw)).mono ?_
  obtain ⟨n, hn⟩ := ae (jc s.data.toList)
  have HN := qh hn
  rw [hn]
  clear hn
  rintro e w1 ⟨rfl, hb1⟩
  have B0 := B0.below hb1 B0.lt
  have hbw := hbw.trans (hb1.mono hbw.size)
  clear hb1 aQ eX aS eY aT fD aU fE
  obtain ⟨aQ, eX, aS, eY, aT, fD, aU, fE⟩ := af.z4 B0
  go_wp2
  obtain ⟨W9, dI, B9, di⟩ := bG B0 hbw (.int .i64 2) (.int .i64 n) (.string ⟨#[]⟩) (.slice none 0 0)
  rw [← dI]
  clear dI
  obtain ⟨iW, qc1, qc2, qc3⟩ := af.c4 B9
  refine bodyPost_ret (v := .agg #[.int .i64 2, .int .i64 n, .string ⟨#[]⟩, .slice none 0 0]) (by simp [results, Tryz.results179, go_sem, iW, qc1, qc2, qc3]) rfl ⟨CV.plain 2 (n) ⟨#[]⟩ (by decide) (by rw [adf.out, HN.out]), di⟩
end Go.Proofs.YtobanldeicclmaaGreatDoor
namespace Go.Proofs.YtobanldeicclmaaGreatDoor
open Go.RowKit
theorem WE {xs ys : List Int} {k : Nat} (h1 : k < xs.length) (h2 : k < ys.length) (h : xs[k] ≠ ys[k]) : decide (xs = ys) = false := by
 rw [decide_eq_false_iff_not]
 rintro rfl
 exact h rfl
theorem WG {xs ys : List Int} {k : Nat} (h1 : k < xs.length) (h2 : k < ys.length) (h : xs[k] = ys[k]) (ht : xs.take k = ys.take k) : xs.take (k + 1) = ys.take (k + 1) := by
 rw [List.take_succ_eq_append_getElem h1, List.take_succ_eq_append_getElem h2, h, ht]
theorem Uh {xs ys : List Int} {k : Nat} (h1 : xs.length ≤ k) (h2 : ys.length = xs.length) (ht : xs.take k = ys.take k) : decide (xs = ys) = true := by
 rw [List.take_of_length_le h1, List.take_of_length_le (by omega)] at ht
 simpa using ht
theorem GU (A B : Option Addr) (n c m d B1 B2 : Nat) (xs ys : List Int) (w : World) (hn : n ≤ maxLen) (hm : m ≤ maxLen)
  (hx0 : Reads w B1 1 A n (dS .i64 xs)) (hy0 : Reads w B2 1 B m (dS .i64 ys)) (hB1 : B1 ≤ w.heap.size) (hB2 : B2 ≤ w.heap.size) :
  Calls Tryz.prog 33 #[.slice A n c, .slice B m d] w fun e w' => e = .returned (.bool (decide (xs = ys))) ∧ Below w.heap.size w w' := by
 have hx := hx0.more hB1
 have hy := hy0.more hB2
 clear hx0 hy0 hB1 hB2
 have hxl : n = xs.length := by have := hx.1; rw [zV] at this; omega
 have hyl : m = ys.length := by have := hy.1; rw [zV] at this; omega
 subst hxl hyl
 unfold maxLen at hn hm
 by_cases hl : xs.length = ys.length
 ·
  have hl0 : ((xs.length : Int) != (ys.length : Int)) = false := by simp [hl]
  have hl1 : xs.length ≤ ys.length := by omega
  have hl2 : ys.length ≤ xs.length := by omega
  clear hl
  go_enter Tryz.func33, Tryz.ntmps33
  go_wp2
  go_loopw [13, 5] (fun i _ wr => ∃ k : Nat, k ≤ xs.length ∧ i = .int .i64 k ∧ Below w.heap.size w wr ∧ xs.take k = ys.take k) (fun i _ _ => xs.length - (intOf i).toNat)
  case atStart => exact ⟨0, Nat.zero_le _, rfl, Below.refl _ _, rfl⟩
  case round =>
   obtain ⟨k, hk1, rfl, hb, hc⟩ := hrel
   have HC := qh hc
   clear hc hl0
   by_cases h1 : k < xs.length
   ·
    have h2 : k < ys.length := by omega
    obtain ⟨ax, u, rfl, _, hu, hcx⟩ := (hx.below hb).at_ h1
    obtain ⟨ay, v, rfl, _, hv, hcy⟩ := (hy.below hb).at_ h2
    obtain ⟨_, rfl⟩ := kZ _ _ _ _ hu
    obtain ⟨_, rfl⟩ := kZ _ _ _ _ hv
    clear hu hv hx hy
    by_cases hz : xs[k] = ys[k]
    ·
     have HS := qh (WG h1 h2 hz HC.out)
     have hz1 : (xs[k] != ys[k]) = false := by simp [hz]
     have HZ := qh hz1
     clear hz hz1
     go_wp2
     have hz1 := HZ.out
     go_quiet (fail)
     go_wp2
     go_roundw
     case rel => exact ⟨k + 1, by omega, by go_num, hb.drewN _, HS.out⟩
     case measure => simp [intOf]; omega
    ·
     have HS := qh (WE h1 h2 hz)
     have hz1 : (xs[k] != ys[k]) = true := by simp [hz]
     have HZ := qh hz1
     clear hz hz1
     go_wp2
     have hz1 := HZ.out
     go_quiet (fail)
     go_wp2
     go_ret
     exact ⟨aj (by rw [HS.out]), hb.drewN _⟩
   ·
    have HS := qh (Uh (by omega) (by omega) HC.out)
    go_wp2
    go_ret
    exact ⟨aj (by rw [HS.out]), hb⟩
 ·
  have hl0 : ((xs.length : Int) != (ys.length : Int)) = true := by simp; omega
  have HS := qh (show decide (xs = ys) = false by rw [decide_eq_false_iff_not]; rintro rfl; exact hl rfl)
  clear hl
  go_enter Tryz.func33, Tryz.ntmps33
  go_wp2
  go_ret
  exact ⟨aj (by rw [HS.out]), Below.refl _ _⟩
end Go.Proofs.YtobanldeicclmaaGreatDoor
