/- The walk of over: the quotient and the rest of two naturals. · The naturals by what they stand for: contracts over Rep; gcd. · The walks of the texts of naturals: padded. · The walk of digits: a natural's decimal text. · The walk of ofDigits: a text of digits becomes a natural. -/
import Derived.Test.YtpanbeoelbhhgaaGreatDoorY6
import Derived.Deep.RegionWith
import Derived.Deep.LoopGhost
import Derived.Test.YtpanbeoelbhhgaaGreatDoorY2
import Derived.Test.YtpanbeoelbhhgaaGreatDoorY4
import Derived.Test.YtpanbeoelbhhgaaGreatDoorYSh
import Derived.Lib.AppendIntMem
namespace Go.Proofs.YtpanbeoelbhhgaaGreatDoor
open Go.RowKit Limb
theorem len_of_le {l a : List Nat} (ht : Top l) (ha : Small a) (h : val l ≤ val a) : l.length ≤ a.length :=
  Classical.byContradiction fun hc => by have := lt_of_len ha ht (by omega); omega
theorem Rep.len {w : World} {L x : Nat} {v : Value} {a : List Nat} (h : Rep w L v x) (ha : Small a) (hx : x ≤ val a) : Rep w a.length v x := by
  obtain ⟨l, A, c, h1, h2, h3, h4, h5, h6, h7, h8⟩ := h.ex
  exact ⟨l, A, c, h1, h2, h3, h4, h5, h6, h7, len_of_le h3 ha (by omega)⟩
theorem Rep.nil_ {w : World} : Rep w 0 (.slice none 0 0) 0 := ⟨[], none, 0, rfl, Small.nil, fun h => absurd rfl h, rfl, Reads.none_, Nat.le_refl _, Nat.zero_le _, Nat.le_refl _⟩
theorem one_limb {l : List Nat} {x : Nat} (ht : Top l) (hv : val l = x) (h0 : 0 < x) (hx : x < 1000000000) : l = [x] := by
  have h1 : l.length ≤ 1 := Classical.byContradiction fun hc => by
    have hg := val_ge ht (by intro e; subst e; simp at hc)
    have hp := pow_mono (show 1 ≤ l.length - 1 by omega)
    omega
  match l, h1 with
  | [], _ => simp [val] at hv; omega
  | [y], _ => simp [val] at hv; rw [hv]
theorem top_pos {l : List Nat} (ht : Top l) (h : 0 < l.length) : 0 < l.getD (l.length - 1) 0 := by
  have hne : l ≠ [] := by intro e; subst e; simp at h
  have := ht hne
  rw [List.getLast_eq_getElem] at this
  rw [getD_at (by omega)]
  omega
theorem val_pos_len {l : List Nat} (h : 0 < val l) : 0 < l.length := Classical.byContradiction fun hc => by
  have : l = [] := List.eq_nil_of_length_eq_zero (by omega)
  subst this
  simp [val] at h
def DivInv (T Vv n N : Nat) (L Qs : List Nat) (m : Nat) : Prop :=
  L.length = N ∧ Small L ∧ Small Qs ∧ Qs.length + m + n = N ∧ val L < Vv * 1000000000 ^ m ∧ val L + Vv * (1000000000 ^ m * val Qs) = T
theorem val_three (X W Z : List Nat) : val (X ++ W ++ Z) = val X + 1000000000 ^ X.length * (val W + 1000000000 ^ W.length * val Z) := by
  rw [List.append_assoc, val_append, val_append]
theorem DivInv.window {T Vv n N j : Nat} {L Qs : List Nat} (h : DivInv T Vv n N L Qs (j + 1)) (hV : 0 < Vv) (hVn : Vv < 1000000000 ^ n) :
    ∃ X W Z, L = X ++ W ++ Z ∧ X.length = j ∧ W.length = n + 1 ∧ Small W ∧ val W < 1000000000 * Vv ∧ (∀ W', W'.length = W.length → Small W' → val W' = val W % Vv → DivInv T Vv n N (X ++ W' ++ Z) (val W / Vv :: Qs) j) := by
  obtain ⟨h1, h2, h3, h4, h5, h6⟩ := h
  have eL : L = L.take j ++ (L.drop j).take (n + 1) ++ (L.drop j).drop (n + 1) := by
    rw [List.append_assoc, List.take_append_drop, List.take_append_drop]
  have lX : (L.take j).length = j := by simp; omega
  have lW : ((L.drop j).take (n + 1)).length = n + 1 := by simp; omega
  have sX : Small (L.take j) := h2.take j
  have sW : Small ((L.drop j).take (n + 1)) := (h2.drop j).take _
  have sZ : Small ((L.drop j).drop (n + 1)) := (h2.drop j).drop _
  generalize L.take j = X at eL lX sX
  generalize (L.drop j).take (n + 1) = W at eL lW sW
  generalize (L.drop j).drop (n + 1) = Z at eL sZ
  have ev := val_three X W Z
  rw [lX, lW] at ev
  rw [eL, ev] at h5 h6
  have hz : val Z = 0 := by
    refine Classical.byContradiction fun hc => ?_
    have e1 : 1000000000 ^ j * (1000000000 ^ (n + 1) * 1) ≤ 1000000000 ^ j * (1000000000 ^ (n + 1) * val Z) := Nat.mul_le_mul_left _ (Nat.mul_le_mul_left _ (by omega))
    have e2 : Vv * 1000000000 ^ (j + 1) ≤ 1000000000 ^ n * 1000000000 ^ (j + 1) := Nat.mul_le_mul_right _ (Nat.le_of_lt hVn)
    have e3 : 1000000000 ^ n * 1000000000 ^ (j + 1) = 1000000000 ^ j * (1000000000 ^ (n + 1) * 1) := by
      rw [pow_succ', pow_succ']; ac_rfl
    rw [Nat.mul_add] at h5
    omega
  rw [hz, Nat.mul_zero, Nat.add_zero] at h5 h6
  have e4 : Vv * 1000000000 ^ (j + 1) = 1000000000 ^ j * (1000000000 * Vv) := by rw [pow_succ']; ac_rfl
  have hW : val W < 1000000000 * Vv := by
    rw [e4] at h5
    exact Nat.lt_of_mul_lt_mul_left (Nat.lt_of_le_of_lt (Nat.le_add_left _ _) h5)
  refine ⟨X, W, Z, eL, lX, lW, sW, hW, fun W' l1 l2 l3 => ?_⟩
  have ev' := val_three X W' Z
  rw [lX, hz, Nat.mul_zero, Nat.add_zero, l3] at ev'
  have hr := Nat.mod_lt (val W) hV
  have hx := val_lt sX
  rw [lX] at hx
  refine ⟨by have := congrArg List.length eL; simp at this; simp [l1]; omega, (sX.append l2).append sZ, fun y hy => ?_, by simp; omega, ?_, ?_⟩
  · rcases List.mem_cons.1 hy with rfl | hy
    · exact (Nat.div_lt_iff_lt_mul hV).2 hW
    · exact h3 y hy
  · rw [ev', Nat.mul_comm Vv]
    have e5 : 1000000000 ^ j * (val W % Vv + 1) ≤ 1000000000 ^ j * Vv := Nat.mul_le_mul_left _ hr
    rw [Nat.mul_add] at e5
    omega
  · rw [ev', ← h6, val]
    have e6 := Nat.mod_add_div (val W) Vv
    have e7 : 1000000000 ^ j * val W = 1000000000 ^ j * (val W % Vv) + Vv * (1000000000 ^ j * (val W / Vv)) := by
      conv => lhs; rw [← e6]
      rw [Nat.mul_add]
      congr 1
      ac_rfl
    have e8 : Vv * (1000000000 ^ j * (val W / Vv + 1000000000 * val Qs)) = Vv * (1000000000 ^ j * (val W / Vv)) + Vv * (1000000000 ^ (j + 1) * val Qs) := by
      rw [Nat.mul_add, Nat.mul_add, pow_succ']
      congr 2
      ac_rfl
    omega
theorem DivInv.start {T Vv n : Nat} {L : List Nat} {m : Nat} (hs : Small L) (hT : val L = T) (hm : m + n = L.length) (hn : 0 < n) (hV : 1000000000 ^ (n - 1) ≤ Vv) (hlt : T < 1000000000 ^ (L.length - 1)) : DivInv T Vv n L.length L [] m := by
  refine ⟨rfl, hs, Small.nil, by simpa using hm, ?_, by simp [val, hT]⟩
  have e1 : 1000000000 ^ (n - 1) * 1000000000 ^ m ≤ Vv * 1000000000 ^ m := Nat.mul_le_mul_right _ hV
  rw [← Nat.pow_add, show n - 1 + m = L.length - 1 from by omega] at e1
  omega
theorem DivInv.done {T Vv n N : Nat} {L Qs : List Nat} (h : DivInv T Vv n N L Qs 0) (hV : 0 < Vv) : val Qs = T / Vv ∧ val L = T % Vv := by
  obtain ⟨h1, h2, h3, h4, h5, h6⟩ := h
  rw [Nat.pow_zero, Nat.mul_one] at h5
  rw [Nat.pow_zero, Nat.one_mul] at h6
  rw [← h6, Nat.add_mul_div_left _ _ hV, Nat.add_mul_mod_self_left, Nat.div_eq_of_lt h5, Nat.mod_eq_of_lt h5]
  omega
theorem own_empty (w : World) (base : Nat) (e : TypeId) (h : base ≤ w.heap.size) : (w.alloc (.cells #[] e (0, 0))).ownsRow base e 1 (.slice (some ⟨w.heap.size, 0, none⟩) 0 0) 0 (limV []) :=
  ⟨rfl, .inr ⟨w.heap.size, 0, #[], rfl, h, by show (w.heap.push _)[w.heap.size]? = _; rw [Array.getElem?_push, if_pos rfl], Nat.le_refl _, Nat.zero_le _, rfl, rfl⟩⟩
/-- an own row that is not empty, by its block -/
theorem own_at {w : World} {B' : Nat} {e : TypeId} {v : Value} {n : Nat} {xs : List Value} (h : w.ownsRow B' e 1 v n xs) (hn : 0 < n) : ∃ g cap, v = .slice (some ⟨g, 0, none⟩) n cap ∧ B' ≤ g ∧ g < w.heap.size ∧ n ≤ cap ∧ cap ≤ maxLen := by
  obtain ⟨h1, h2⟩ := h
  rcases h2 with ⟨rfl, e0⟩ | ⟨g, cap, cur, rfl, e1, e2, e3, e4, e5⟩
  · omega
  · exact ⟨g, cap, rfl, e1, (Array.getElem?_eq_some_iff.1 e2).1, e3, e4⟩
theorem own_belowR9 {w w' : World} {B' : Nat} {e : TypeId} {g n cap : Nat} {xs : List Value} (h : w.ownsRow B' e 1 (.slice (some ⟨g, 0, none⟩) n cap) n xs) (hb : Below w.heap.size w w') : w'.ownsRow B' e 1 (.slice (some ⟨g, 0, none⟩) n cap) n xs :=
  h.kept (row := none) ⟨hb.os, hb.tape, hb.output, hb.size, fun k hk _ => hb.block k hk⟩ (.inr (by simp [Value.ownBlock]))
theorem val_one {l : List Nat} (h : l.length = 1) : val l = l.getD 0 0 := by
  match l, h with
  | [x], _ => simp [val]
theorem add_zero_addr (a : Addr) : a.add 0 = a := by unfold Addr.add; rw [if_pos rfl]
set_option maxRecDepth 100000 in
set_option maxHeartbeats 4000000 in
theorem overL_any (A1 A2 : Option Addr) (a b : List Nat) (c1 c2 : Nat) (w : World) (ha : Small a) (hb : Small b) (hta : Top a) (htb : Top b) (hla : a.length ≤ 100000) (hlb : b.length ≤ 100000) (hca : a.length ≤ c1) (hcm : c1 ≤ maxLen) (hb0 : 0 < val b) (hra : Reads w w.heap.size 1 A1 a.length (limV a)) (hrb : Reads w w.heap.size 1 A2 b.length (limV b)) :
    Calls Tryz.prog 107 #[.slice A1 a.length c1, .slice A2 b.length c2] w fun e w' => (∃ q r, e = .returned (.tuple #[q, r]) ∧ Rep w' a.length q (val a / val b) ∧ Rep w' a.length r (val a % val b)) ∧ Below w.heap.size w w' := by
  have HTA := Lib.hid hta
  have HTB := Lib.hid htb
  have HB0 := Lib.hid hb0
  have HCA := Lib.hid hca
  have HCM := Lib.hid hcm
  have hbl := val_pos_len hb0
  have HCMP := Lib.hid (compareL_any A1 A2 a b c1 c2 w ha hb hta htb (by unfold maxLen; omega) (by unfold maxLen; omega) hra hrb)
  clear hta htb hb0 hca hcm
  go_enter Tryz.func107, Tryz.ntmps107
  go_wp2_with fail
  refine HCMP.out.mono ?_
  rintro e w1 ⟨rfl, hb1⟩
  have hra1 := hra.below hb1
  have hrb1 := hrb.below hb1
  by_cases hlt : (val a : Int) < (val b : Int)
  · have HR := Lib.hid (show Rep w1 a.length (.slice A1 a.length c1) (val a % val b) by
      rw [Nat.mod_eq_of_lt (by omega)]
      exact ⟨a, A1, c1, rfl, ha, HTA.out, rfl, (hra1.more hb1.size), HCA.out, HCM.out, Nat.le_refl _⟩)
    have HQ := Lib.hid (show Rep w1 a.length (.slice none 0 0) (val a / val b) by
      rw [Nat.div_eq_of_lt (by omega)]
      exact Rep.nil_.mono (Nat.zero_le _))
    rw [ordI_ltR9 hlt]
    clear hlt
    go_wp2
    go_ret2
    exact ⟨⟨_, _, rfl, HQ.out, HR.out⟩, hb1⟩
  have HLE := Lib.hid (show val b ≤ val a by omega)
  have ho : ordIR9 (val a) (val b) = 0 ∨ ordIR9 (val a) (val b) = 1 := by
    by_cases hg : (val b : Int) < (val a : Int)
    · exact .inr (ordI_gt hg)
    · rw [show (val a : Int) = val b from by omega, ordI_eq]; exact .inl rfl
  have ho1 : ¬ ordIR9 (val a) (val b) < 0 := by omega
  obtain ⟨o, eo⟩ : ∃ o, ordIR9 (val a) (val b) = o := ⟨_, rfl⟩
  rw [eo] at ho1 ⊢
  clear eo ho hlt
  by_cases h1 : b.length = 1
  · have hd0 : 0 < b.getD 0 0 := by have := top_pos HTB.out hbl; rwa [h1] at this
    have hd1 := getD_small hb 0
    obtain ⟨d, ed⟩ : ∃ d, b.getD 0 0 = d := ⟨_, rfl⟩
    rw [ed] at hd0 hd1
    obtain ⟨bd, rfl, hcb⟩ := hrb1.limb (k := 0) hbl
    rw [← getD_at, ed, add_zero_addr] at hcb
    have HBV := Lib.hid (show val b = d by rw [val_one h1, ed])
    clear ed
    rw [h1]
    have HSH := Lib.hid (fun w2 hr => shortL_any A1 a c1 d w2 ha (by omega) hd0 hd1 hr)

    go_wp2_with fail
    refine (HSH.out w1 (hra1.more hb1.size)).mono ?_
    rintro e w2 ⟨⟨q, rfl, hq⟩, hb2⟩
    have hm : val a % d < 1000000000 := Nat.lt_trans (Nat.mod_lt _ hd0) hd1
    have HQ := Lib.hid (show Rep w2 a.length q (val a / val b) by rw [HBV.out]; exact hq)
    have hmd : val a % d = val a % val b := by rw [HBV.out]
    obtain ⟨m, em⟩ : ∃ m, val a % d = m := ⟨_, rfl⟩
    rw [em] at hm hmd ⊢
    have HMD := Lib.hid hmd
    clear hq em hmd
    go_wp2_with fail
    refine (small_any m w2 (by omega)).mono ?_
    rintro e w3 ⟨⟨r, rfl, hr⟩, hb3⟩
    have HR := Lib.hid (show Rep w3 a.length r (val a % val b) from HMD.out ▸ hr.len ha (by rw [HMD.out]; exact Nat.mod_le _ _))
    have HQ3 := Lib.hid (HQ.out.below hb3)
    clear hr
    go_wp2
    go_ret2
    exact ⟨⟨_, _, rfl, HQ3.out, HR.out⟩, (hb1.trans (hb2.mono hb1.size)).trans (hb3.mono (Nat.le_trans hb1.size hb2.size))⟩
  have h2 : 2 ≤ b.length := by omega
  have HX := Lib.hid (top_pos HTB.out hbl)
  have hx0 := HX.out
  have hx1 := getD_small hb (b.length - 1)
  obtain ⟨bd, rfl, hcb⟩ := hrb1.limb (k := b.length - 1) (by omega)
  obtain ⟨x, ex⟩ : ∃ x, b.getD (b.length - 1) 0 = x := ⟨_, rfl⟩
  rw [ex] at hx0 hx1
  rw [← getD_at, ex] at hcb
  have HEX := Lib.hid ex
  clear ex
  have hsc : ((1000000000 / (x + 1) : Nat) : Int) = 1000000000 / ((x : Int) + 1) := by simp
  have hs0 : 0 < 1000000000 / (x + 1) := Nat.div_pos (by omega) (by omega)
  have hs1 : 1000000000 / (x + 1) < 1000000000 := Nat.div_lt_self (by omega) (by omega)
  have hsx : 1000000000 / (x + 1) * (x + 1) ≤ 1000000000 := Nat.div_mul_le_self _ _
  obtain ⟨sc, es⟩ : ∃ sc, 1000000000 / (x + 1) = sc := ⟨_, rfl⟩
  rw [es] at hsc hs0 hs1 hsx
  have HSC := Lib.hid hsc
  have HSX := Lib.hid hsx
  clear es hsc hsx
  have hx3 : ¬ ((x : Int) + 1 = 0) := by omega
  go_wp2_with fail
  rw [← HSC.out]
  refine (small_any sc w1 (by omega)).mono ?_
  rintro e w2 ⟨⟨vs, rfl, hrs⟩, hb2⟩
  have HRS := Lib.hid hrs
  obtain ⟨sl, As, cs, rfl, hs3, hs4, hs5, hs6, hs7, hs8, hs9⟩ := hrs.ex
  obtain rfl := one_limb hs4 hs5 hs0 hs1
  clear hrs
  have hb02 := hb1.trans (hb2.mono hb1.size)
  have HTA2 := Lib.hid (timesL_any A1 As a [sc] c1 cs w2 ha hs3 (by omega) (by simp) ((hra.below hb02).more hb02.size) hs6)
  have ev1 : val [sc] = sc := by simp [val]
  rw [ev1] at HTA2
  go_wp2_with fail
  refine HTA2.out.mono ?_
  rintro e w3 ⟨⟨vu, rfl, hru⟩, hb3⟩
  have hb03 := hb02.trans (hb3.mono hb02.size)
  have hs63 := (hs6.below hb3).more hb3.size
  have HTB2 := Lib.hid (timesL_any (some bd) As b [sc] c2 cs w3 hb hs3 (by omega) (by simp) ((hrb.below hb03).more hb03.size) hs63)
  rw [ev1] at HTB2
  clear ev1
  go_wp2_with fail
  refine HTB2.out.mono ?_
  rintro e w4 ⟨⟨vv, rfl, hrv⟩, hb4⟩
  have hb04 := hb03.trans (hb4.mono hb03.size)
  have hs64 := (hs63.below hb4).more hb4.size
  have hru4 := hru.below hb4
  obtain ⟨ul, Au, cu, rfl, hu1, hu2, hu3, hu4, hu5, hu6, hu7⟩ := hru4.ex
  obtain ⟨vl, Av, cv, rfl, hv1, hv2, hv3, hv4, hv5, hv6, hv7⟩ := hrv.ex
  have hnl : 2 ≤ vl.length := Nat.le_trans h2 (len_of_le HTB.out hv1 (by rw [hv3]; exact Nat.le_mul_of_pos_right _ hs0))
  have hnu : vl.length ≤ ul.length := len_of_le hv2 hu1 (by rw [hu3, hv3]; exact Nat.mul_le_mul_right _ HLE.out)
  have HU := Lib.hid (show Small ul ∧ Top ul ∧ val ul = val a * sc from ⟨hu1, hu2, hu3⟩)
  have HV := Lib.hid (show Small vl ∧ Top vl ∧ val vl = val b * sc from ⟨hv1, hv2, hv3⟩)
  simp only [List.length_singleton] at hu7 hv7
  clear HTA2 HTB2 hru hru4 hrv hs6 hs63 hs3 hs4 hs5 hu1 hu2 hu3 hv1 hv2 hv3 hra1 hrb1 hb1 hb2 hb3 hb4 hb02 hb03
  obtain ⟨au, eAu, hcu⟩ := hu4.2 (by omega)
  subst eAu
  obtain ⟨i0, hi, hz0, hz1, hz2⟩ := info_parts infoU
  have HW4 := Lib.hid (show ul.length ≤ a.length + 1 ∧ vl.length ≤ b.length + 1 ∧ 2 ≤ vl.length ∧ vl.length ≤ ul.length from ⟨hu7, hv7, hnl, hnu⟩)
  go_wp2_with (at_builtin; refine wpList_append_own _ rfl _ _ 80 rfl w4.heap.size 82 i0 (.int .u64 0) 1 8 Tryz.underlying80 hi hz0 hz1 hz2 rfl (by decide) _ _ _ rfl (own_empty w4 w4.heap.size 82 (Nat.le_refl _)) au ul.length cu (limV ul) rfl ?c0 ?c1 ?c2 ?c3 ?c4 ?c5 ?_)
  case c0 => rw [limV_len]; omega
  case c1 =>
    intro j u hj
    have hu := hcu.2 j u hj
    rw [World.cell?_alloc_lt w4 _ _ (block_lt_of_cell hu)]
    exact hu
  case c2 => intro u hu; simp only [limV, List.mem_map] at hu; obtain ⟨x, _, rfl⟩ := hu; rfl
  case c3 => unfold maxLen; omega
  case c4 => omega
  case c5 => simp
  intro v5 w5 hown5 hg5 _
  have hb5 : Below w4.heap.size w4 w5 := ((Below.refl w4.heap.size w4).alloc (Nat.le_refl _) _).grown hg5 (by simp) (fun g hg => by simp [Value.ownBlock] at hg; omega)
  have hown5' : w5.ownsRow w4.heap.size 82 1 v5 ul.length (limV ul) := by
    have := hown5
    rwa [show limV [] ++ limV ul = limV ul from rfl] at this
  have HB5 := Lib.hid hb5
  have hsz5 := hb5.size
  clear hown5 hg5 hb5
  go_wp2_with (at_builtin; refine wpList_append_own _ rfl _ _ 80 rfl w4.heap.size 82 i0 (.int .u64 0) 1 8 Tryz.underlying80 hi hz0 hz1 hz2 rfl (by decide) _ _ _ rfl (hown5'.alloc _) ⟨w5.heap.size, 0, none⟩ 1 1 [.int .u64 0] rfl rfl ?c1 ?c2 ?c3 ?c4 ?c5 ?_)
  case c1 => intro j u hj; cases j <;> simp_all [go_sem]
  case c2 => intro u hu; simp only [List.mem_singleton] at hu; subst hu; rfl
  case c3 => unfold maxLen; omega
  case c4 => omega
  case c5 => simp; omega
  intro v6 w6 hown6 hg6 _
  have hrow : ∀ g, v5.ownBlock = some g → w4.heap.size ≤ g := fun g hg => (hown5'.lt g hg).1
  have HB6 := Lib.hid (show Below w4.heap.size w4 w6 from (HB5.out.alloc HB5.out.size _).grown hg6 (by simp; omega) hrow)
  have HO6 := Lib.hid (show w6.ownsRow w4.heap.size 82 1 v6 (ul ++ List.replicate 1 0).length (limV (ul ++ List.replicate 1 0)) by rw [limV_append, List.length_append]; exact hown6)
  clear hown6 hg6 hrow hown5'
  go_wp2_with fail
  go_loopw [9] (fun v wr => ∃ k : Nat, 1 ≤ k ∧ (k = 1 ∨ ul.length + k ≤ a.length + 1) ∧ wr.ownsRow w4.heap.size 82 1 v (ul ++ List.replicate k 0).length (limV (ul ++ List.replicate k 0)) ∧ Below w4.heap.size w4 wr) (fun v _ => a.length + 1 - (match v with | .slice _ n _ => n | _ => 0))
  case atStart => exact ⟨1, by omega, .inl rfl, HO6.out, HB6.out⟩
  case round =>
    obtain ⟨k, hk1, hk2, hown, hbr⟩ := hrel
    have hle : (ul ++ List.replicate k 0).length = ul.length + k := by simp
    obtain ⟨g, cap, rfl, hg1, hg2, hg3, hg4⟩ := own_at hown (by omega)
    rw [hle] at hown hg3 ⊢
    clear HO6 HB6
    by_cases hgo : ul.length + k < a.length + 1
    · have hsz := hbr.size
      have HOW := Lib.hid hown
      go_wp2_with (at_builtin; refine wpList_append_own _ rfl _ _ 80 rfl w4.heap.size 82 i0 (.int .u64 0) 1 8 Tryz.underlying80 hi hz0 hz1 hz2 rfl (by decide) _ _ _ rfl (hown.alloc _) ⟨wr.heap.size, 0, none⟩ 1 1 [.int .u64 0] rfl rfl ?c1 ?c2 ?c3 ?c4 ?c5 ?_)
      case c1 => intro j u hj; cases j <;> simp_all [go_sem]
      case c2 => intro u hu; simp only [List.mem_singleton] at hu; subst hu; rfl
      case c3 => unfold maxLen; omega
      case c4 => omega
      case c5 => simp; omega
      intro v7 w7 hown7 hg7 _
      have HB7 := Lib.hid (show Below w4.heap.size w4 w7 from (hbr.alloc hbr.size _).grown hg7 (by simp; omega) (fun g' hg' => by simp [Value.ownBlock] at hg'; omega))
      have HO7 := Lib.hid (show w7.ownsRow w4.heap.size 82 1 v7 (ul ++ List.replicate (k + 1) 0).length (limV (ul ++ List.replicate (k + 1) 0)) by
        have e : ul ++ List.replicate (k + 1) 0 = (ul ++ List.replicate k 0) ++ [0] := by rw [List.replicate_succ']; simp
        rw [e, limV_append (ul ++ List.replicate k 0), List.length_append, hle]
        exact hown7)
      have e7 : ∃ g' cap', v7 = .slice (some ⟨g', 0, none⟩) (ul.length + (k + 1)) cap' := by
        obtain ⟨g', cap', e, _⟩ := own_at HO7.out (by simp; omega)
        exact ⟨g', cap', by rw [e]; congr 1; simp⟩
      obtain ⟨g', cap', rfl⟩ := e7
      clear hown7 hg7 hown
      go_wp2
      go_roundw
      case rel => exact ⟨k + 1, by omega, .inr (by omega), HO7.out, HB7.out⟩
      case measure => simp; omega
    · have hL0 : (ul ++ List.replicate k 0).length = ul.length + k := hle
      have hN1 : ul.length + k ≤ a.length + 2 := by have := HW4.out; omega
      have hm0 : vl.length < ul.length + k := by have := HW4.out; omega
      have HL0 := Lib.hid (show Small (ul ++ List.replicate k 0) ∧ val (ul ++ List.replicate k 0) = val a * sc from ⟨HU.out.1.append (small_rep _), by rw [val_zeros]; exact HU.out.2.2⟩)
      have HLT := Lib.hid (show val a * sc < 1000000000 ^ ((ul ++ List.replicate k 0).length - 1) by
        rw [← HU.out.2.2, hL0]
        exact Nat.lt_of_lt_of_le (val_lt HU.out.1) (pow_mono (by omega)))
      obtain ⟨L0, eL0⟩ : ∃ L0, ul ++ List.replicate k 0 = L0 := ⟨_, rfl⟩
      obtain ⟨N, eN⟩ : ∃ N, ul.length + k = N := ⟨_, rfl⟩
      have eNi : (ul.length : Int) + (k : Int) = (N : Int) := by omega
      rw [eL0] at hL0 HL0 HLT hown
      rw [eN] at hL0 hN1 hm0 hown hg3 hgo hk2 ⊢
      have HV2 := Lib.hid (show 2 ≤ vl.length ∧ vl.length ≤ b.length + 1 ∧ 0 < val vl ∧ val vl < 1000000000 ^ vl.length ∧ 0 < vl.getD (vl.length - 1) 0 from ⟨HW4.out.2.2.1, HW4.out.2.1, by rw [HV.out.2.2]; exact Nat.mul_pos HB0.out hs0, val_lt HV.out.1, top_pos HV.out.2.1 (by have := HW4.out; omega)⟩)
      have HD0 := Lib.hid (DivInv.start (Vv := val vl) (n := vl.length) (m := N - vl.length) HL0.out.1 HL0.out.2 (by rw [hL0]; omega) (by have := HV2.out; omega) (val_ge HV.out.2.1 (by intro e; have := HV2.out; subst e; simp at this)) HLT.out)
      rw [hL0] at HD0
      have HOW := Lib.hid hown
      have hlv1 := HV2.out.2.1
      have hlv2 := HV2.out.1
      clear eL0 eN hL0 HL0 HLT hown hk2 hk1 hle hu7 hv7 hnl hnu
      go_wp2_with (at_make; refine wpList_make_full _ rfl _ _ 80 rfl wr.heap.size 82 i0 (.int .u64 0) 1 Tryz.underlying80 hi hz0 hz1 .i64 .i64 ((N : Int) - (vl.length : Int)) ((N : Int) - (vl.length : Int)) (N - vl.length) rfl rfl (by omega) (by omega) ?c1 ?c2 ?c3 ?_)
      case c1 => rw [hz2]; omega
      case c2 => unfold maxLen; omega
      case c3 => exact Nat.le_refl _
      intro w8 hown8 hg8
      have HB8 := Lib.hid (show Below w4.heap.size w4 w8 from hbr.grown hg8 hbr.size (fun g hg => by cases hg))
      have HQ8 := Lib.hid (show w8.ownsRow wr.heap.size 82 1 (.slice (some ⟨wr.heap.size, 0, none⟩) (N - vl.length) (N - vl.length)) (N - vl.length) (limV (List.replicate (N - vl.length) 0 ++ [])) by
        rw [List.append_nil, limV_zeros, ← toList_madeCells_one, ← Nat.mul_one (N - vl.length)]
        simpa using hown8)
      have HU8 := Lib.hid (HOW.out.kept hg8 (.inr (by simp [Value.ownBlock])))
      obtain ⟨gq, egq⟩ : ∃ gq, wr.heap.size = gq := ⟨_, rfl⟩
      rw [egq] at HQ8 hg2 ⊢
      clear hown8 hg8 egq
      go_wp2_with fail
      go_loopw [13] (fun s wr => ∃ (m : Nat) (L Qs : List Nat), m ≤ N - vl.length ∧ s = .int .i64 ((m : Int) - 1) ∧ DivInv (val a * sc) (val vl) vl.length N L Qs m ∧ wr.ownsRow w4.heap.size 82 1 (.slice (some ⟨g, 0, none⟩) N cap) N (limV L) ∧ wr.ownsRow gq 82 1 (.slice (some ⟨gq, 0, none⟩) (N - vl.length) (N - vl.length)) (N - vl.length) (limV (List.replicate m 0 ++ Qs)) ∧ Below w4.heap.size w4 wr) (fun s _ => (intOf s + 1).toNat)
      case atStart => exact ⟨N - vl.length, L0, [], Nat.le_refl _, by congr 1; omega, HD0.out, HU8.out, HQ8.out, HB8.out⟩
      case round =>
        obtain ⟨m, L, Qs, hml, rfl, hdi, hou, hoq, hbr2⟩ := hrel
        have HDI := Lib.hid hdi
        have HOU := Lib.hid hou
        have HOQ := Lib.hid hoq
        clear hdi hou hoq HD0 HU8 HQ8 HB8 hbr
        by_cases h0 : 0 < m
        · obtain ⟨j, rfl⟩ : ∃ j, m = j + 1 := ⟨m - 1, by omega⟩
          have ec : ((j + 1 : Nat) : Int) - 1 = (j : Int) := by omega
          rw [ec]
          obtain ⟨X, W, Z, eL, lX, lW, sW, hWq, hnext⟩ := HDI.out.window HV2.out.2.2.1 HV2.out.2.2.2.1
          obtain ⟨q, eq⟩ : ∃ q, val W / val vl = q := ⟨_, rfl⟩
          rw [eq] at hnext
          have HNX := Lib.hid hnext
          have DS := Lib.hid (divideStep_any wr w4.heap.size N cap g j (cap - j) cv Av X W Z vl (eL ▸ HOU.out) lX (by omega) lW HV2.out.1 (by omega) sW HV.out.1 HV2.out.2.2.2.2 hWq ((hv4.below hbr2).more hbr2.size) (fun ad e => by
            obtain ⟨ad', e', hlt', _⟩ := hv4.2 (by omega)
            rw [e] at e'
            injection e' with e'
            subst e'
            omega))
          rw [eq] at DS
          clear hnext eL lX sW hWq lW eq
          go_wp2_with fail
          rw [show j + vl.length + 1 - j = vl.length + 1 from by omega]
          refine DS.out.mono ?_
          rintro e w9 ⟨rfl, ⟨W', lW', sW', vW', hu9⟩, hg9⟩
          have HN := Lib.hid (HNX.out W' lW' sW' vW')
          have HQ9 := Lib.hid (HOQ.out.kept hg9 (.inr (by simp [Value.ownBlock]; omega)))
          have st := HQ9.out.stored j (.int .u64 (q : Int))
          rw [limV_set, set_down] at st
          have HQ10 := Lib.hid st.1
          have HU10 := Lib.hid (hu9.kept st.2 (.inr (by simp [Value.ownBlock]; omega)))
          have HB10 := Lib.hid (show Below w4.heap.size w4 (w9.setCell ⟨gq, j, none⟩ (.int .u64 (q : Int))) from (hbr2.grown hg9 hbr2.size (fun k hk => by injection hk with hk; omega)).setCell (p := ⟨gq, j, none⟩) (by show w4.heap.size ≤ gq; omega) _)
          have hcell : ∃ u, w9.cell? ⟨gq, j, none⟩ = some u := by
            rw [HQ9.out.cellAt j (by omega)]
            exact ⟨_, List.getElem?_eq_getElem (by rw [limV_len]; simp; omega)⟩
          obtain ⟨u, hu⟩ := hcell
          have hf := HQ9.out.frozenAt j
          clear st lW' sW' vW' hu9 hg9
          go_wp2
          go_roundw
          case rel => exact ⟨j, _, _, by omega, by go_num, HN.out, HU10.out, HQ10.out, HB10.out⟩
          case measure => simp [intOf]
        · obtain rfl : m = 0 := by omega
          have hdn := HDI.out.done HV2.out.2.2.1
          have HQV := Lib.hid (show val Qs = val a / val b by rw [hdn.1, HV.out.2.2]; exact Nat.mul_div_mul_right _ _ hs0)
          have HLV := Lib.hid (show val L = val a % val b * sc by rw [hdn.2, HV.out.2.2, Nat.mul_mod_mul_right])
          have hLN : L.length = N := HDI.out.1
          have hQN : Qs.length = N - vl.length := by have := HDI.out.2.2.2.1; omega
          have HSL := Lib.hid HDI.out.2.1
          have HSQ := Lib.hid HDI.out.2.2.1
          have hsz2 := hbr2.size
          have hrU : Reads wr wr.heap.size 1 (some ⟨g, 0, none⟩) N (limV L) := Reads.of_own HOU.out
          have HRQ := Lib.hid (show wr.ownsRow gq 82 1 (.slice (some ⟨gq, 0, none⟩) (N - vl.length) (N - vl.length)) (N - vl.length) (limV Qs) from HOQ.out)
          have TR := Lib.hid (fun w' (h : Reads w' w'.heap.size 1 (some ⟨g, 0, none⟩) N (limV L)) => (show Calls Tryz.prog 149 #[.slice (some ⟨g, 0, none⟩) N cap] w' fun e w'' => (∃ m, m ≤ N ∧ e = .returned (.slice (some ⟨g, 0, none⟩) m cap) ∧ Top (L.take m) ∧ val (L.take m) = val L) ∧ w' = w'' from by
            have := trim_any (some ⟨g, 0, none⟩) L cap w'.heap.size w' (by omega) hg4 (by rw [hLN]; exact h)
            rwa [hLN] at this))
          have SH := Lib.hid (fun w' mm (hmm : mm ≤ N) (h : Reads w' w'.heap.size 1 (some ⟨g, 0, none⟩) N (limV L)) => (show Calls Tryz.prog 146 #[.slice (some ⟨g, 0, none⟩) mm cap, .int .u64 (sc : Int)] w' fun e w'' => (∃ v, e = .returned (.tuple #[v, .int .u64 ((val (L.take mm) % sc : Nat) : Int)]) ∧ Rep w'' mm v (val (L.take mm) / sc)) ∧ Below w'.heap.size w' w'' from by
            have hl : (L.take mm).length = mm := by simp; omega
            have := shortL_any (some ⟨g, 0, none⟩) (L.take mm) cap sc w' (HSL.out.take mm) (by omega) hs0 hs1 (by
              have h' : Reads w' w'.heap.size 1 (some ⟨g, 0, none⟩) L.length (limV L) := by rw [hLN]; exact h
              exact reads_takeL h' (by omega))
            rwa [hl] at this))
          obtain ⟨asc, eAs, _, hcs4⟩ := hs64.2 (by simp)
          subst eAs
          have hcs : wr.cell? asc = some (.int .u64 (sc : Int)) := by
            have h := hcs4 0 _ rfl
            rw [add_zero_addr] at h
            exact Below.cell_of hbr2 h
          go_upto_region 17 with (fail)
          go_cut [14, 15] (fun r _ wx => Rep wx a.length r (val a % val b) ∧ wx.ownsRow gq 82 1 (.slice (some ⟨gq, 0, none⟩) (N - vl.length) (N - vl.length)) (N - vl.length) (limV Qs) ∧ Below w4.heap.size w4 wx)
          case first =>
            go_region_with (first
              | (go_at_call 149; refine (TR.out wr.drew hrU).mono ?_; rintro e w' ⟨⟨mm, hmm, rfl, ht, hv⟩, rfl⟩)
              | (go_at_call 146; refine (SH.out wr.drew mm hmm hrU).mono ?_; rintro e w' ⟨⟨vr, rfl, hr⟩, hbs⟩))
            all_goals
              go_wp2_with (fail)
              go_meet
              have hbs' : Below wr.heap.size wr w' := (Below.refl wr.heap.size wr).drew.trans hbs
              exact ⟨by
                rw [hv, HLV.out, Nat.mul_div_cancel _ hs0] at hr
                exact hr.len ha (Nat.mod_le _ _), own_belowR9 HRQ.out hbs', hbr2.trans (hbs'.mono hbr2.size)⟩
          case rest =>
          obtain ⟨hr, hq, hb5⟩ := hcut
          have HR := Lib.hid hr
          have HQR := Lib.hid (show Reads wc wc.heap.size 1 (some ⟨gq, 0, none⟩) Qs.length (limV Qs) by rw [hQN]; exact Reads.of_own hq)
          clear hr hq TR SH
          go_wp2_with fail
          have tr := trim_any (some ⟨gq, 0, none⟩) Qs (N - vl.length) wc.heap.size wc (by omega) (by unfold maxLen; omega) HQR.out
          rw [hQN] at tr
          refine tr.mono ?_
          clear tr
          rintro e w12 ⟨⟨mm, hmm, rfl, ht, hv⟩, rfl⟩
          have HF := Lib.hid (show Rep wc a.length (.slice (some ⟨gq, 0, none⟩) mm (N - vl.length)) (val a / val b) from
            (rep_trim HQR.out (by omega) (by unfold maxLen; omega) (by omega) HSQ.out ht (hv.trans HQV.out) (Nat.le_refl _)).len ha (Nat.div_le_self _ _))
          clear ht hv
          go_wp2
          go_ret2
          exact ⟨⟨_, _, rfl, HF.out, HR.out⟩, hb04.trans (hb5.mono hb04.size)⟩
end Go.Proofs.YtpanbeoelbhhgaaGreatDoor
namespace Go.Proofs.YtpanbeoelbhhgaaGreatDoor
open Go.RowKit Limb
theorem Rep.form {w : World} {L x : Nat} {v : Value} (h : Rep w L v x) : ∃ A n c, v = .slice A n c ∧ (0 < n ↔ 0 < x) ∧ n ≤ L := by
  obtain ⟨l, A, c, rfl, h2, h3, h4, h5, h6, h7, h8⟩ := h.ex
  refine ⟨A, l.length, c, rfl, ⟨fun h0 => ?_, fun h0 => val_pos_len (by omega)⟩, h8⟩
  have := val_ge h3 (by intro e; subst e; simp at h0)
  have := pow_pos (l.length - 1)
  omega
theorem over_rep (w : World) (L M : Nat) (va vb : Value) (x y : Nat) (ha : Rep w L va x) (hb : Rep w M vb y) (hL : L ≤ 100000) (hM : M ≤ 100000) (hy : 0 < y) :
    Calls Tryz.prog 107 #[va, vb] w fun e w' => (∃ q r, e = .returned (.tuple #[q, r]) ∧ Rep w' L q (x / y) ∧ Rep w' L r (x % y)) ∧ Below w.heap.size w w' := by
  obtain ⟨a, A, c, rfl, h2, h3, rfl, h5, h6, h7, h8⟩ := ha.ex
  obtain ⟨b, B', c', rfl, k2, k3, rfl, k5, k6, k7, k8⟩ := hb.ex
  refine (overL_any A B' a b c c' w h2 k2 h3 k3 (by omega) (by omega) h6 h7 hy h5 k5).mono ?_
  rintro e w' ⟨⟨q, r, rfl, hq, hr⟩, hb⟩
  exact ⟨⟨q, r, rfl, hq.mono h8, hr.mono h8⟩, hb⟩
set_option maxRecDepth 100000 in
set_option maxHeartbeats 1000000 in
theorem gcd_rep (w : World) (L : Nat) (va vb : Value) (x y : Nat) (ha : Rep w L va x) (hb : Rep w L vb y) (hL : L ≤ 100000) :
    Calls Tryz.prog 106 #[va, vb] w fun e w' => (∃ v, e = .returned v ∧ Rep w' L v (Nat.gcd x y)) ∧ Below w.heap.size w w' := by
  go_enter Tryz.func106, Tryz.ntmps106
  go_wp2
  go_loopg [0, 1, 5, 6] y (fun k va vb _ _ wr => ∃ x', Rep wr L va x' ∧ Rep wr L vb k ∧ Nat.gcd x' k = Nat.gcd x y ∧ Below w.heap.size w wr)
  case atStart => exact ⟨x, ha, hb, rfl, Below.refl _ _⟩
  case round =>
    obtain ⟨x', hx, hy, hg, hbr⟩ := hrel
    have HX := Lib.hid hx
    have HY := Lib.hid hy
    have HG := Lib.hid hg
    obtain ⟨A, n, c, rfl, hn, hnL⟩ := hy.form
    clear hx hy hg ha hb
    by_cases h0 : 0 < n
    · have hk := hn.1 h0
      clear hn
      go_wp2_with fail
      refine (over_rep wr L L _ _ x' gk HX.out HY.out hL hL hk).mono ?_
      rintro e w2 ⟨⟨q, r, rfl, hq, hr⟩, hb2⟩
      have HR := Lib.hid hr
      have HY2 := Lib.hid (HY.out.below hb2)
      have HB2 := Lib.hid (hbr.trans (hb2.mono hbr.size))
      clear hq hr
      go_wp2
      go_roundg (x' % gk)
      case measure => exact Nat.mod_lt _ hk
      case rel => exact ⟨gk, HY2.out, HR.out, by rw [← HG.out, Nat.gcd_comm x' gk, Nat.gcd_rec gk x', Nat.gcd_comm], HB2.out⟩
    · have hk : gk = 0 := by
        have := hn
        omega
      subst hk
      have HF := Lib.hid (show x' = Nat.gcd x y by rw [← HG.out, Nat.gcd_zero_right])
      clear hn
      go_wp2
      go_ret
      exact ⟨⟨_, rfl, HF.out ▸ HX.out⟩, hbr⟩
end Go.Proofs.YtpanbeoelbhhgaaGreatDoor
namespace Go.Proofs.YtpanbeoelbhhgaaGreatDoor
open Go.RowKit Limb Dig
abbrev TabR9 (w : World) : Prop := Lib.TabIs Tryz.prog w "internal/strconv.uint64pow10" .u64 Lib.pow10Tab
theorem TabR9.below {w w' : World} (h : TabR9 w) (hb : Below w.heap.size w w') : TabR9 w' := by
  unfold TabR9 Lib.TabIs World.var? at *
  cases hg : Tryz.prog.globalNamed "internal/strconv.uint64pow10" with
  | none => rw [hg] at h; cases h
  | some g =>
    rw [hg] at h
    simp only [Option.bind_some] at h ⊢
    have hlt : g < w.heap.size := by
      rcases Nat.lt_or_ge g w.heap.size with h' | h'
      · exact h'
      · rw [Array.getElem?_eq_none h'] at h; cases h
    rw [hb.block g hlt]
    exact h
theorem dsizeR9 {t : ByteArray} {l : List UInt8} (h : t.data.toList = l) : t.size = l.length := by rw [← h]; rfl
theorem ba_ofR9 {t : ByteArray} {l : List UInt8} (h : t.data.toList = l) : t = ⟨l.toArray⟩ := by rw [← h]
set_option maxHeartbeats 1000000 in
theorem padded_anyR9 (n : Nat) (w : World) (hn : n < 1000000000) (htab : TabR9 w) :
    Calls Tryz.prog 108 #[.int .i64 (n : Int), .int .i64 9] w fun e w' => e = .returned (.string ⟨(pad9 n).toArray⟩) ∧ Below w.heap.size w w' := by
  have hl9 := dec_len 8 n (by simpa using hn)
  have HT := Lib.hid htab
  clear htab
  go_enter Tryz.func108, Tryz.ntmps108
  go_wp2_with fail
  refine (Tryz.strconv_Itoa (n : Int) (by omega) (by omega) w HT.out).mono ?_
  rintro e w1 ⟨rfl, kk, os, hw1⟩
  have hb1 : Below w.heap.size w w1 := by rw [hw1]; exact Lib.below_grow _ w (Nat.le_refl _) _ _
  have eI : Lib.itoa (n : Int) = Lib.decDigits n := by simp [Lib.itoa]
  rw [eI]
  clear hw1 eI HT
  obtain ⟨t, et⟩ : ∃ t : ByteArray, t = ⟨(Lib.decDigits n).toArray⟩ := ⟨_, rfl⟩
  rw [← et]
  have ht : t.data.toList = zeros 0 ++ Lib.decDigits n := by rw [et]; rfl
  have HT0 := Lib.hid ht
  clear et ht
  go_wp2
  go_loop [5] (fun s => ∃ (k : Nat) (t : ByteArray), s = .string t ∧ t.data.toList = zeros k ++ Lib.decDigits n ∧ k + (Lib.decDigits n).length ≤ 9) (fun s => match s with | .string t => 9 - t.size | _ => 0)
  case atStart => exact ⟨0, t, rfl, HT0.out, by omega⟩
  case round =>
    obtain ⟨k, t, rfl, ht, hk⟩ := hrel
    have hs := dsizeR9 ht
    simp only [List.length_append, zeros, List.length_replicate] at hs
    have HT1 := Lib.hid ht
    clear ht HT0
    by_cases h9 : t.size < 9
    · have HN := Lib.hid (show ((⟨#[48]⟩ : ByteArray) ++ t).data.toList = zeros (k + 1) ++ Lib.decDigits n by
        rw [ByteArray.data_append, Array.toList_append, HT1.out, zeros, zeros, List.replicate_succ]
        rfl)
      go_wp2
      go_round
      case rel => exact ⟨k + 1, _, rfl, HN.out, by omega⟩
      case measure => have := dsizeR9 HN.out; simp [zeros] at this ⊢; omega
    · have HF := Lib.hid (show t = ⟨(pad9 n).toArray⟩ from ba_ofR9 (by rw [HT1.out, pad9]; congr 2; omega))
      go_wp2
      go_ret
      refine ⟨?_, hb1⟩
      show Ending.returned (.string t) = _
      rw [HF.out]
end Go.Proofs.YtpanbeoelbhhgaaGreatDoor
namespace Go.Proofs.YtpanbeoelbhhgaaGreatDoor
open Go.RowKit Limb Dig
theorem byteCells_appR9 (a b : List UInt8) : Lib.byteCells a ++ Lib.byteCells b = Lib.byteCells (a ++ b) := by simp [Lib.byteCells]
theorem bld_new (w : World) : Lib.IsBuilder 131 5 w.heap.size w.heap.size (Lib.byteCells (allD [])) (w.alloc (.cells #[.pointer none, .slice none 0 0] 131 (0, 0))) :=
  .inl ⟨Nat.le_refl _, .slice none 0 0, by show (w.heap.push _)[w.heap.size]? = _; rw [Array.getElem?_push, if_pos rfl], World.ownsRow_nil _ _ _ _, by simp [Value.ownBlock]⟩
theorem bldAt_belowR9 {T e : TypeId} {B b : Nat} {p : Value} {bs : List Value} {w w' : World} (h : Lib.BuilderAt T e B b p bs w) (hb : Below w.heap.size w w') : Lib.BuilderAt T e B b p bs w' := by
  have hlt := h.lt
  obtain ⟨hB, v, hbk, hown, hne⟩ := h
  refine ⟨hB, v, (hb.block b hlt).trans hbk, ?_, hne⟩
  refine hown.kept (row := none) ⟨hb.os, hb.tape, hb.output, hb.size, fun k hk _ => hb.block k hk⟩ ?_
  cases hv : v.ownBlock with
  | none => exact .inl rfl
  | some g => exact .inr (by simp)
theorem bld_belowR9 {T e : TypeId} {B b : Nat} {bs : List Value} {w w' : World} (h : Lib.IsBuilder T e B b bs w) (hb : Below w.heap.size w w') : Lib.IsBuilder T e B b bs w' :=
  h.imp (bldAt_belowR9 · hb) (bldAt_belowR9 · hb)
set_option maxHeartbeats 1000000 in
set_option maxRecDepth 100000 in
theorem digits_any (L x : Nat) (v : Value) (w : World) (h : Rep w L v x) (hL : L ≤ 100000) (htab : TabR9 w) :
    Calls Tryz.prog 67 #[v] w fun e w' => e = .returned (.string ⟨(decS x).toArray⟩) ∧ Below w.heap.size w w' := by
  obtain ⟨l, A, c, rfl, hs, ht, hv, hr, hc, hcm, hlL⟩ := h.ex
  have HX := Lib.hid (decS_of hs ht hv)
  have HT := Lib.hid htab
  have HR := Lib.hid hr
  clear h htab hr hv ht
  go_enter Tryz.func67, Tryz.ntmps67
  by_cases h0 : l.length = 0
  · have hl0 : l = [] := List.eq_nil_of_length_eq_zero h0
    have HF := Lib.hid (show decS x = [48] by rw [← HX.out, hl0]; rfl)
    rw [h0]
    go_wp2
    go_ret
    refine ⟨?_, Below.refl _ _⟩
    show Ending.returned (.string ⟨#[48]⟩) = _
    rw [HF.out]
  have HNE := Lib.hid (show l ≠ [] from fun e => h0 (by rw [e]; rfl))
  have hb0 : (((l.length : Nat) : Int) == 0) = false := by simpa using HNE.out
  go_wp2
  go_loopw [4] (fun s wr => ∃ m : Nat, m ≤ l.length ∧ s = .int .i64 ((m : Int) - 1) ∧ Lib.IsBuilder 131 5 w.heap.size w.heap.size (Lib.byteCells (allD (l.drop m))) wr ∧ Below w.heap.size w wr) (fun s _ => (intOf s + 1).toNat)
  case atStart => exact ⟨l.length, Nat.le_refl _, rfl, by rw [List.drop_length]; exact bld_new w, (Below.refl _ w).alloc (Nat.le_refl _) _⟩
  case round =>
    obtain ⟨m, hm, rfl, hbd, hbr⟩ := hrel
    have HBD := Lib.hid hbd
    clear hbd
    by_cases hm0 : 0 < m
    · obtain ⟨i, rfl⟩ : ∃ i, m = i + 1 := ⟨m - 1, by omega⟩
      have ec : ((i + 1 : Nat) : Int) - 1 = (i : Int) := by omega
      rw [ec]
      have hi : i < l.length := by omega
      obtain ⟨ad, rfl, hca⟩ := (HR.out.below hbr).limb hi
      obtain ⟨y, hy⟩ : ∃ y, l[i] = y := ⟨_, rfl⟩
      have hy1 : y < 1000000000 := by rw [← hy]; exact hs.at_ hi
      rw [hy] at hca
      have HD := Lib.hid (show allD (l.drop i) = allD (l.drop (i + 1)) ++ pad9 y by rw [List.drop_eq_getElem_cons hi, allD, hy])
      have HLN := Lib.hid (show (allD (l.drop (i + 1))).length ≤ 900000 by
        rw [(allD_val _ (hs.drop (i + 1))).2]
        simp
        omega)
      have HP9 := Lib.hid (pad9_len hy1)
      clear hy
      go_wp2_with fail
      refine (padded_anyR9 y wr hy1 (HT.out.below hbr)).mono ?_
      rintro e w2 ⟨rfl, hb2⟩
      have hbd2 := bld_belowR9 HBD.out hb2
      have hw2 := Nat.le_trans hbr.size hb2.size
      go_wp2_with fail
      refine (writeString_any w.heap.size w.heap.size _ _ w2 hbd2 (by rw [Lib.byteCells_length]; have := HLN.out; have := dsizeR9 (t := ⟨(pad9 y).toArray⟩) (l := pad9 y) rfl; have := HP9.out; omega) hw2).mono ?_
      rintro e w3 ⟨rfl, hb3, hbw⟩
      rw [Lib.strCells_toArray, byteCells_appR9, ← HD.out] at hb3
      have HB3 := Lib.hid hb3
      have hbw2 := (hbr.trans (hb2.mono hbr.size)).trans hbw
      clear hb3 hbd2
      go_wp2
      go_roundw
      case rel => exact ⟨i, by omega, by go_num, .inr HB3.out, hbw2⟩
      case measure => simp [intOf]
    · obtain rfl : m = 0 := by omega
      have hs1 := hbr.size
      go_wp2_with fail
      refine (Tryz.Builder_String_any w.heap.size w.heap.size (allD l) wr HBD.out hs1).mono ?_
      rintro e w2 ⟨rfl, hb2⟩
      go_wp2_with fail
      refine (Tryz.strings_TrimLeft_one ⟨(allD l).toArray⟩ 48 (by decide) w2).mono ?_
      rintro e w3 ⟨rfl, rfl⟩
      have HF := Lib.hid (show (⟨(Lib.trimLeftB (allD l) 48).toArray⟩ : ByteArray) = ⟨(decS x).toArray⟩ by
        rw [← HX.out, decL, if_neg HNE.out]
        rfl)
      go_wp2
      go_ret
      refine ⟨?_, hbr.trans hb2⟩
      show Ending.returned (.string ⟨(Lib.trimLeftB (allD l) 48).toArray⟩) = _
      rw [HF.out]
end Go.Proofs.YtpanbeoelbhhgaaGreatDoor
namespace Go.Proofs.YtpanbeoelbhhgaaGreatDoor
open Go.RowKit Limb Dig
theorem pow9 (k : Nat) : 1000000000 ^ k = 10 ^ (9 * k) := by rw [Nat.pow_mul]
theorem dig_le {l : List UInt8} (h : ∀ b ∈ l, isDig b) : digVal l < 10 ^ l.length := by
  induction l with
  | nil => simp [digVal]
  | cons b l ih =>
    have h1 := ih fun c hc => h c (List.mem_cons.2 (Or.inr hc))
    have h2 := h b (List.mem_cons.2 (Or.inl rfl))
    unfold isDig at h2
    rw [digVal_cons, List.length_cons, Nat.pow_succ]
    have : (b.toNat - 48) * 10 ^ l.length ≤ 9 * 10 ^ l.length := Nat.mul_le_mul_right _ (by omega)
    omega
/-- the text left, the text done, the limbs -/
structure OfInv (orig t rest : List UInt8) (out : List Nat) : Prop where
  eq : orig = t ++ rest
  v : val out = digVal rest
  s : Small out
  n : rest.length = 9 * out.length ∨ (t = [] ∧ rest.length ≤ 9 * out.length ∧ 9 * out.length ≤ rest.length + 8)
theorem OfInv.next {orig t rest : List UInt8} {out : List Nat} (h : OfInv orig t rest out) (hd : ∀ b ∈ orig, isDig b) (ht : t ≠ []) {k : Nat} (hk : k = t.length - 9) :
    OfInv orig (t.take k) (t.drop k ++ rest) (out ++ [digVal (t.drop k)]) := by
  obtain ⟨h1, h2, h3, h4⟩ := h
  have hn : rest.length = 9 * out.length := by
    rcases h4 with h | h
    · exact h
    · exact absurd h.1 ht
  have hl : 0 < t.length := List.length_pos_iff.2 ht
  have hdl : (t.drop k).length = t.length - k := List.length_drop
  have hlt : digVal (t.drop k) < 1000000000 := by
    have := dig_le (l := t.drop k) fun b hb => hd b (by rw [h1]; exact List.mem_append.2 (.inl (List.mem_of_mem_drop hb)))
    have hp : 10 ^ (t.drop k).length ≤ 10 ^ 9 := Nat.pow_le_pow_right (by omega) (by omega)
    omega
  refine ⟨by rw [h1, ← List.append_assoc, List.take_append_drop], ?_, h3.snoc hlt, ?_⟩
  · rw [val_snoc, digVal_append, h2, pow9, ← hn, Nat.mul_comm]
    omega
  · simp only [List.length_append, List.length_singleton, hdl, hn]
    by_cases h9 : 9 ≤ t.length
    · exact .inl (by omega)
    · refine .inr ⟨by rw [show k = 0 by omega, List.take_zero], by omega, by omega⟩
end Go.Proofs.YtpanbeoelbhhgaaGreatDoor
