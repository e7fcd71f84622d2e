/- The walk of 'order': -1, 0, 1 as two ints compare; how lists of numbers stand in memory. No condition. · The walks of the naturals: trim, small, plus. Conditions: lengths are small. · The walks of the naturals: minus, compare. Conditions: lengths are small. · The walks of the naturals: compare. · The walks of the naturals: times. · The walks of the naturals: short. · The walks of the naturals: tooMuch; the plain law of a guess. · Division by limbs: the plain laws of a guess, of the taking away and of the giving back. -/
import Derived.Test.YtpanbeoelbhhgaaGreatDoorY1
import Derived.Test.YtpanbeoelbhhgaaGreatDoorY3
import Derived.Carry
import Derived.BigQuiet
import Derived.RegionTactic
namespace Go.Proofs.YtpanbeoelbhhgaaGreatDoor
open Go.RowKit
def ordIR9 (a b : Int) : Int := if a < b then -1 else if b < a then 1 else 0
theorem order_anyR9 (a b : Int) (w : World) :
    Calls Tryz.prog 155 #[.int .i64 a, .int .i64 b] w fun e w' => e = .returned (.int .i64 (ordIR9 a b)) ∧ w = w' := by
  go_enter Tryz.func155, Tryz.ntmps155
  go_wp2
  all_goals (go_ret; exact ⟨ret_int (by simp [ordIR9, *] <;> omega), rfl⟩)
end Go.Proofs.YtpanbeoelbhhgaaGreatDoor
namespace Go.Proofs.YtpanbeoelbhhgaaGreatDoor
open Go.RowKit Limb
def limV (l : List Nat) : List Value := l.map fun (x : Nat) => Value.int .u64 (x : Int)
theorem limV_len (l : List Nat) : (limV l).length = l.length := by simp [limV]
theorem limV_append (l r : List Nat) : limV (l ++ r) = limV l ++ limV r := by simp [limV]
theorem limV_take (l : List Nat) (m : Nat) : (limV l).take m = limV (l.take m) := by simp [limV, List.map_take]
theorem limV_at {l : List Nat} {k : Nat} (h : k < l.length) : (limV l)[k]? = some (.int .u64 (l[k] : Int)) := by simp [limV, h]
theorem limV_get (l : List Nat) (k : Nat) (u : Value) (h : (limV l)[k]? = some u) : ∃ h : k < l.length, u = .int .u64 (l[k] : Int) := by
  have hl : k < l.length := by
    have := (List.getElem?_eq_some_iff.1 h).1
    rwa [limV_len] at this
  rw [limV_at hl] at h
  exact ⟨hl, by injection h with h; exact h.symm⟩
/-- The cell of a limb. -/
theorem Reads.limb {w : World} {B' n : Nat} {A : Option Addr} {l : List Nat} (h : Reads w B' 1 A n (limV l)) {k : Nat} (hk : k < l.length) : ∃ ad, A = some ad ∧ w.cell? (ad.add k) = some (.int .u64 (l[k] : Int)) := by
  have hn : n = l.length := by have := h.1; rw [limV_len] at this; omega
  obtain ⟨ad, u, e, _, hu, hc⟩ := h.at_ (show k < n by omega)
  rw [limV_at hk] at hu
  injection hu with hu
  exact ⟨ad, e, by rw [hc, hu]⟩
/-- A natural in memory. -/
structure Rep (w : World) (L : Nat) (v : Value) (x : Nat) : Prop where
  ex : ∃ (l : List Nat) (A : Option Addr) (c : Nat), v = .slice A l.length c ∧ Small l ∧ Top l ∧ val l = x ∧ Reads w w.heap.size 1 A l.length (limV l) ∧ l.length ≤ c ∧ c ≤ maxLen ∧ l.length ≤ L
theorem Rep.mono {w : World} {L L' : Nat} {v : Value} {x : Nat} (h : Rep w L v x) (hL : L ≤ L') : Rep w L' v x := by
  obtain ⟨l, A, c, h1, h2, h3, h4, h5, h6, h7, h8⟩ := h.ex
  exact ⟨l, A, c, h1, h2, h3, h4, h5, h6, h7, by omega⟩
theorem Rep.below {w w' : World} {L : Nat} {v : Value} {x : Nat} (h : Rep w L v x) (hb : Below w.heap.size w w') : Rep w' L v x := by
  obtain ⟨l, A, c, h1, h2, h3, h4, h5, h6⟩ := h.ex
  exact ⟨l, A, c, h1, h2, h3, h4, (h5.below hb).more hb.size, h6⟩
theorem trim_any (A : Option Addr) (l : List Nat) (c B' : Nat) (w : World) (hc : l.length ≤ c) (hm : c ≤ maxLen) (hx : Reads w B' 1 A l.length (limV l)) :
    Calls Tryz.prog 149 #[.slice A l.length c] w fun e w' => (∃ m, m ≤ l.length ∧ e = .returned (.slice A m c) ∧ Top (l.take m) ∧ val (l.take m) = val l) ∧ w = w' := by
  unfold maxLen at hm
  go_enter Tryz.func149, Tryz.ntmps149
  go_wp2
  go_loop [0] (fun s => ∃ m : Nat, m ≤ l.length ∧ s = .slice A m c ∧ val (l.take m) = val l) (fun s => match s with | .slice _ n _ => n | _ => 0)
  case atStart => exact ⟨l.length, Nat.le_refl _, rfl, by rw [List.take_length]⟩
  case round =>
    obtain ⟨m, hml, rfl, hv⟩ := hrel
    have HV := Lib.hid hv
    clear hv
    by_cases h0 : 0 < m
    · have hk : m - 1 < l.length := by omega
      obtain ⟨ad, rfl, hcell⟩ := hx.limb hk
      by_cases hz : l[m - 1] = 0
      · have hz1 : ((l[m - 1] : Int) == 0) = true := by simp [hz]
        have hz2 : val (l.take (m - 1)) = val l := by
          have := val_take_succ hk
          rw [show m - 1 + 1 = m from by omega, hz] at this
          rw [← HV.out, this]
          omega
        have HZ := Lib.hid hz2
        clear hz hz2
        go_wp2
        go_round
        case rel => exact ⟨m - 1, by omega, rfl, HZ.out⟩
        case measure => simp; omega
      · have hz1 : ((l[m - 1] : Int) == 0) = false := by simp; omega
        have HT : Hid (Top (l.take m)) := by
          intro hne
          rw [List.getLast_eq_getElem]
          simp only [List.getElem_take]
          have e : (l.take m).length - 1 = m - 1 := by simp; omega
          simp only [e]
          exact hz
        clear hz
        go_wp2
        go_ret
        exact ⟨⟨m, hml, rfl, HT.out, HV.out⟩, rfl⟩
    · obtain rfl : m = 0 := by omega
      go_wp2
      go_ret
      exact ⟨⟨0, hml, rfl, fun h => absurd rfl h, HV.out⟩, rfl⟩
theorem infoU : (Tryz.prog.info? 82).map (fun i => (i.zero, i.size, i.bytes)) = some (some (.int .u64 0), 1, 8) := by kernel_rfl
theorem own_form {w : World} {B' : Nat} {e : TypeId} {v : Value} {l : List Nat} (h : w.ownsRow B' e 1 v l.length (limV l)) : ∃ A c, v = .slice A l.length c ∧ Reads w w.heap.size 1 A l.length (limV l) ∧ l.length ≤ c ∧ c ≤ maxLen := by
  obtain ⟨h1, h2⟩ := h
  rcases h2 with ⟨rfl, e0⟩ | ⟨g, cap, cur, rfl, e1, e2, e3, e4, e5⟩
  · have hl : l = [] := List.eq_nil_of_length_eq_zero e0
    subst hl
    exact ⟨none, 0, rfl, Reads.none_, Nat.le_refl _, Nat.zero_le _⟩
  · exact ⟨_, cap, rfl, Reads.of_own (c := cap) ⟨h1, .inr ⟨g, cap, cur, rfl, e1, e2, e3, e4, e5⟩⟩, e3, e4⟩
theorem reads_takeL {w : World} {B' : Nat} {A : Option Addr} {l : List Nat} {m : Nat} (h : Reads w B' 1 A l.length (limV l)) (hm : m ≤ l.length) : Reads w B' 1 A (l.take m).length (limV (l.take m)) := by
  have hl : (l.take m).length = m := by simp; omega
  rw [hl]
  refine ⟨by rw [limV_len, hl]; omega, fun h0 => ?_⟩
  obtain ⟨ad, e, hb, hc⟩ := h.2 (by omega)
  refine ⟨ad, e, hb, fun j u hj => hc j u ?_⟩
  rw [← limV_take, List.getElem?_take] at hj
  split at hj
  · exact hj
  · cases hj
theorem rep_trim {w : World} {A : Option Addr} {L c x m : Nat} {l : List Nat} (h : Reads w w.heap.size 1 A l.length (limV l)) (hc : l.length ≤ c) (hx : c ≤ maxLen) (hm : m ≤ l.length) (hs : Small l) (ht : Top (l.take m)) (hv : val (l.take m) = x) (hL : m ≤ L) : Rep w L (.slice A m c) x := by
  have hl : (l.take m).length = m := by simp; omega
  refine ⟨l.take m, A, c, by rw [hl], hs.take m, ht, hv, reads_takeL h hm, by omega, hx, by omega⟩
theorem rep_own {w : World} {B' : Nat} {e : TypeId} {v : Value} {l : List Nat} {L x : Nat} (h : w.ownsRow B' e 1 v l.length (limV l)) (hs : Small l) (ht : Top l) (hv : val l = x) (hL : l.length ≤ L) : Rep w L v x := by
  obtain ⟨A, c, rfl, hr, h1, h2⟩ := own_form h
  exact ⟨l, A, c, rfl, hs, ht, hv, hr, h1, h2, hL⟩
def SmallInv (n : Nat) (out : List Nat) (m : Nat) : Prop :=
  n = val out + 1000000000 ^ out.length * m ∧ Small out ∧ (m = 0 → Top out) ∧
  ((out.length = 0 ∧ m ≤ 18446744073709551615) ∨ (out.length = 1 ∧ m ≤ 18446744073) ∨ (out.length = 2 ∧ m ≤ 18) ∨ (out.length = 3 ∧ m = 0))
theorem SmallInv.next {n m : Nat} {out : List Nat} (h : SmallInv n out m) (h0 : 0 < m) : SmallInv n (out ++ [m % 1000000000]) (m / 1000000000) := by
  obtain ⟨h1, h2, h3, h4⟩ := h
  refine ⟨?_, h2.snoc (Nat.mod_lt _ (by omega)), ?_, ?_⟩
  · rw [val_snoc, List.length_append, List.length_singleton, pow_succ', Nat.add_assoc, Nat.mul_assoc, ← Nat.mul_add, Nat.mod_add_div, h1]
  · intro hm hne
    have e : (out ++ [m % 1000000000]).getLast hne = m % 1000000000 := by simp
    rw [e]
    omega
  · rw [List.length_append, List.length_singleton]
    omega
theorem SmallInv.len {n m : Nat} {out : List Nat} (h : SmallInv n out m) (h0 : 0 < m) : out.length ≤ 2 := by
  have := h.2.2.2
  omega
set_option maxHeartbeats 400000 in
theorem small_any (n : Nat) (w : World) (hn : n ≤ 18446744073709551615) :
    Calls Tryz.prog 31 #[.int .u64 n] w fun e w' => (∃ v, e = .returned v ∧ Rep w' 3 v n) ∧ Below w.heap.size w w' := by
  have hi0 : SmallInv n [] n := ⟨by simp [val], Small.nil, fun _ h => absurd rfl h, .inl ⟨rfl, hn⟩⟩
  clear hn
  obtain ⟨i0, hi, hz0, hz1, hz2⟩ := info_parts infoU
  go_enter Tryz.func31, Tryz.ntmps31
  go_wp2
  go_loopw [0, 3] (fun s v wr => ∃ (m : Nat) (out : List Nat), s = .int .u64 (m : Int) ∧ SmallInv n out m ∧ wr.ownsRow w.heap.size 82 1 v out.length (limV out) ∧ Below w.heap.size w wr) (fun s _ _ => (intOf s).toNat)
  case atStart => exact ⟨n, [], rfl, hi0, World.ownsRow_nil _ _ _ _, Below.refl _ _⟩
  case round =>
    obtain ⟨m, out, rfl, hinv, hown, hb⟩ := hrel
    clear hi0
    by_cases h0 : 0 < m
    · have hlen := hinv.len h0
      have hq : (m : Int) / 1000000000 ≤ 18446744073 := by have := hinv.2.2.2; omega
      have HN := Lib.hid (hinv.next h0)
      clear hinv
      go_wp2_with (at_builtin; refine wpList_append_own _ rfl _ _ 80 rfl w.heap.size 82 i0 (.int .u64 0) 1 8 Tryz.underlying80 hi hz0 hz1 hz2 rfl (by decide) _ _ _ rfl (hown.alloc _) ⟨wr.heap.size, 0, none⟩ 1 1 [.int .u64 ((m % 1000000000 : Nat) : Int)] rfl rfl ?c1 ?c2 ?c3 ?c4 ?c5 ?_)
      case c1 => intro j u hj; cases j <;> simp_all [go_sem]
      case c2 => intro u hu; simp only [List.mem_singleton] at hu; subst hu; rfl
      case c3 => unfold maxLen; omega
      case c4 => omega
      case c5 => have := hb.size; simp; omega
      intro v2 w2 hown2 hg2 _
      have hrow : ∀ g, u3.ownBlock = some g → w.heap.size ≤ g := fun g hg => (hown.lt g hg).1
      have hb2 : Below w.heap.size w w2 := (hb.alloc hb.size _).grown hg2 (by have := hb.size; simp; omega) hrow
      have HO := Lib.hid (show w2.ownsRow w.heap.size 82 1 v2 (out ++ [m % 1000000000]).length (limV (out ++ [m % 1000000000])) by rw [limV_append, List.length_append]; exact hown2)
      clear hown2 hg2 hrow hown
      go_wp2
      go_roundw
      case rel => exact ⟨m / 1000000000, _, by go_num, HN.out, HO.out, hb2⟩
      case measure => simp [intOf]; omega
    · obtain rfl : m = 0 := by omega
      have HO := Lib.hid hown
      clear hown
      go_wp2
      go_ret
      obtain ⟨h1, h2, h3, h4⟩ := hinv
      exact ⟨⟨_, rfl, rep_own HO.out h2 (h3 rfl) (by simpa using h1.symm) (by omega)⟩, hb⟩
theorem val_take_getD (l : List Nat) (k : Nat) : val (l.take (k + 1)) = val (l.take k) + 1000000000 ^ k * l.getD k 0 := by
  by_cases h : k < l.length
  · rw [val_take_succ h]; simp [List.getD, h]
  · rw [List.take_of_length_le (by omega), List.take_of_length_le (by omega)]
    simp [List.getD, show l.length ≤ k by omega]
theorem getD_small {l : List Nat} (h : Small l) (k : Nat) : l.getD k 0 < 1000000000 := by
  by_cases hk : k < l.length
  · simp [List.getD, hk]; exact h.at_ hk
  · simp [List.getD, show l.length ≤ k by omega]
def PlusInv (a b out : List Nat) (k c : Nat) : Prop :=
  out.length = k ∧ Small out ∧ val out + 1000000000 ^ k * c = val (a.take k) + val (b.take k) ∧ c ≤ 1 ∧ (k ≤ max a.length b.length ∨ (k = max a.length b.length + 1 ∧ c = 0))
theorem PlusInv.next {a b out : List Nat} {k c s : Nat} (h : PlusInv a b out k c) (ha : Small a) (hb : Small b) (hs : s = c + a.getD k 0 + b.getD k 0) (hk : k < a.length ∨ k < b.length ∨ 0 < c) :
    PlusInv a b (out ++ [s % 1000000000]) (k + 1) (s / 1000000000) := by
  obtain ⟨h1, h2, h3, h4, h5⟩ := h
  have ga := getD_small ha k
  have gb := getD_small hb k
  refine ⟨by simp [h1], h2.snoc (Nat.mod_lt _ (by omega)), ?_, by omega, ?_⟩
  · rw [val_snoc, h1, val_take_getD, val_take_getD, pow_succ']
    have := plus_step (P := 1000000000 ^ k) (p := val out) (x := a.getD k 0) (y := b.getD k 0) (s := s) h3 (by omega)
    omega
  · by_cases hm : k < max a.length b.length
    · omega
    · have e1 : a.getD k 0 = 0 := by simp [List.getD, show a.length ≤ k by omega]
      have e2 : b.getD k 0 = 0 := by simp [List.getD, show b.length ≤ k by omega]
      omega
end Go.Proofs.YtpanbeoelbhhgaaGreatDoor
namespace Go.Proofs.YtpanbeoelbhhgaaGreatDoor
open Go.RowKit Limb
theorem limV_zeros (n : Nat) : limV (List.replicate n 0) = List.replicate n (.int .u64 0) := by simp [limV]
def MinusInv (a b out : List Nat) (k c : Nat) : Prop :=
  out.length = k ∧ Small out ∧ val out + val (b.take k) = val (a.take k) + 1000000000 ^ k * c ∧ c ≤ 1
theorem MinusInv.next {a b out : List Nat} {k c x c' : Nat} (h : MinusInv a b out k c) (hx : x < 1000000000) (hc : c' ≤ 1) (hs : a.getD k 0 + 1000000000 * c' = x + (b.getD k 0 + c)) :
    MinusInv a b (out ++ [x]) (k + 1) c' := by
  obtain ⟨h1, h2, h3, h4⟩ := h
  refine ⟨by simp [h1], h2.snoc hx, ?_, hc⟩
  rw [val_snoc, h1, val_take_getD, val_take_getD, pow_succ']
  exact minus_step c' h3 hs
theorem MinusInv.done {a b out : List Nat} {k c : Nat} (h : MinusInv a b out k c) (_ha : Small a) (hk : a.length = k) (hb : b.length ≤ k) (hle : val b ≤ val a) : val out = val a - val b := by
  obtain ⟨h1, h2, h3, h4⟩ := h
  have hlt := val_lt h2
  rw [h1] at hlt
  rw [val_take_all hb, val_take_all (by omega)] at h3
  have : c = 0 ∨ c = 1 := by omega
  rcases this with rfl | rfl
  · omega
  · omega
end Go.Proofs.YtpanbeoelbhhgaaGreatDoor
namespace Go.Proofs.YtpanbeoelbhhgaaGreatDoor
open Go.RowKit Limb
theorem ordI_ltR9 {a b : Int} (h : a < b) : ordIR9 a b = -1 := by simp [ordIR9, h]
theorem ordI_gt {a b : Int} (h : b < a) : ordIR9 a b = 1 := by simp [ordIR9, h]; omega
theorem ordI_eq {a : Int} : ordIR9 a a = 0 := by simp [ordIR9]
theorem drop_top {a b : List Nat} {i : Nat} (ha : i < a.length) (hb : i < b.length) (hd : a.drop (i + 1) = b.drop (i + 1)) (he : a[i] = b[i]) : a.drop i = b.drop i := by
  rw [List.drop_eq_getElem_cons ha, List.drop_eq_getElem_cons hb, hd, he]
set_option maxRecDepth 100000 in
set_option maxHeartbeats 1000000 in
theorem compareL_any (A1 A2 : Option Addr) (a b : List Nat) (c1 c2 : Nat) (w : World) (ha : Small a) (hb : Small b) (hta : Top a) (htb : Top b) (hla : a.length ≤ maxLen) (_hlb : b.length ≤ maxLen) (hra : Reads w w.heap.size 1 A1 a.length (limV a)) (hrb : Reads w w.heap.size 1 A2 b.length (limV b)) :
    Calls Tryz.prog 145 #[.slice A1 a.length c1, .slice A2 b.length c2] w fun e w' => e = .returned (.int .i64 (ordIR9 (val a) (val b))) ∧ Below w.heap.size w w' := by
  unfold maxLen at hla _hlb
  have HTA := Lib.hid hta
  have HTB := Lib.hid htb
  clear hta htb
  go_enter Tryz.func145, Tryz.ntmps145
  go_wp2_with fail
  refine (order_anyR9 _ _ _).mono ?_
  rintro e w1 ⟨rfl, rfl⟩
  by_cases hl : (a.length : Int) < b.length
  · have HR := Lib.hid (lt_of_len ha HTB.out (show a.length < b.length by omega))
    rw [ordI_ltR9 hl]
    go_wp2
    go_ret
    exact ⟨ret_int (by rw [ordI_ltR9 (by have := HR.out; omega)]), Below.refl _ _⟩
  by_cases hg : (b.length : Int) < a.length
  · have HR := Lib.hid (lt_of_len hb HTA.out (show b.length < a.length by omega))
    rw [ordI_gt hg]
    go_wp2
    go_ret
    exact ⟨ret_int (by rw [ordI_gt (by have := HR.out; omega)]), Below.refl _ _⟩
  have hab : b.length = a.length := by omega
  have HAB := Lib.hid hab
  rw [show (b.length : Int) = a.length from by omega, ordI_eq]
  clear hl hg hab
  go_wp2
  go_loopw [6] (fun s wr => ∃ m : Nat, m ≤ a.length ∧ s = .int .i64 ((m : Int) - 1) ∧ a.drop m = b.drop m ∧ Below w.heap.size w wr) (fun s _ => (intOf s + 1).toNat)
  case atStart => exact ⟨a.length, Nat.le_refl _, rfl, by rw [List.drop_of_length_le (Nat.le_refl _), List.drop_of_length_le (by rw [HAB.out]; exact Nat.le_refl _)], Below.refl _ _⟩
  case round =>
    obtain ⟨m, hm, rfl, hd, hbr⟩ := hrel
    have HD := Lib.hid hd
    clear hd
    by_cases h0 : 0 < m
    · obtain ⟨i, rfl⟩ : ∃ i, m = i + 1 := ⟨m - 1, by omega⟩
      have hia : i < a.length := by omega
      have hib : i < b.length := by have := HAB.out; omega
      have ec : ((i + 1 : Nat) : Int) - 1 = (i : Int) := by omega
      rw [ec]
      obtain ⟨ad, rfl, hca⟩ := (hra.below hbr).limb hia
      obtain ⟨bd, rfl, hcb⟩ := (hrb.below hbr).limb hib
      have HX := Lib.hid (show ∃ x y : Nat, a[i] = x ∧ b[i] = y from ⟨_, _, rfl, rfl⟩)
      obtain ⟨x, y, hx, hy⟩ := HX.out
      clear HX
      have hx1 : x < 1000000000 := by rw [← hx]; exact ha.at_ hia
      have hy1 : y < 1000000000 := by rw [← hy]; exact hb.at_ hib
      rw [hx] at hca
      rw [hy] at hcb
      have HXE := Lib.hid hx
      have HYE := Lib.hid hy
      clear hx hy
      by_cases hlt : (x : Int) < (y : Int)
      · have HR := Lib.hid (lt_at ha hia hib HD.out (by rw [HXE.out, HYE.out]; omega))
        go_wp2
        go_quiet (fail)
        go_wp2
        go_ret
        exact ⟨ret_int (by rw [ordI_ltR9 (by have := HR.out; omega)]), hbr.drewN _⟩
      · by_cases hgt : (y : Int) < (x : Int)
        · have HR := Lib.hid (lt_at hb hib hia HD.out.symm (by rw [HXE.out, HYE.out]; omega))
          go_wp2
          go_quiet (fail)
          go_wp2
          go_quiet (fail)
          go_wp2
          go_ret
          exact ⟨ret_int (by rw [ordI_gt (by have := HR.out; omega)]), (hbr.drewN _).drewN _⟩
        · have HN := Lib.hid (drop_top hia hib HD.out (by rw [HXE.out, HYE.out]; omega))
          go_wp2
          go_quiet (fail)
          go_wp2
          go_quiet (fail)
          go_wp2
          go_roundw
          case rel => exact ⟨i, by omega, by go_num, HN.out, hbr.drewN _⟩
          case measure => simp [intOf]
    · obtain rfl : m = 0 := by omega
      have HE := Lib.hid (show a = b by simpa using HD.out)
      go_wp2
      go_ret
      exact ⟨ret_int (by rw [HE.out, ordI_eq]), hbr⟩
end Go.Proofs.YtpanbeoelbhhgaaGreatDoor
namespace Go.Proofs.YtpanbeoelbhhgaaGreatDoor
open Go.RowKit Limb
theorem limV_set (l : List Nat) (j x : Nat) : (limV l).set j (.int .u64 (x : Int)) = limV (l.set j x) := by simp [limV, List.map_set]
theorem val_set {l : List Nat} {j : Nat} (h : j < l.length) (y : Nat) : val (l.set j y) + 1000000000 ^ j * l.getD j 0 = val l + 1000000000 ^ j * y := by
  have e := val_split l j (by omega)
  have e2 := val_split (l.set j y) j (by simp; omega)
  rw [List.take_set_of_le (by omega)] at e2
  rw [List.drop_eq_getElem_cons h] at e
  rw [List.drop_eq_getElem_cons (show j < (l.set j y).length by simpa using h)] at e2
  simp only [List.getElem_set_self, List.drop_set, show j < j + 1 from by omega, if_true, val] at e e2
  have g : l.getD j 0 = l[j] := by simp [List.getD, h]
  rw [e, e2, g, Nat.mul_add, Nat.mul_add]
  omega
theorem small_set {l : List Nat} (h : Small l) (j : Nat) {y : Nat} (hy : y < 1000000000) : Small (l.set j y) := fun x hx => by
  rcases List.mem_or_eq_of_mem_set hx with hx | rfl
  · exact h x hx
  · exact hy
theorem mul_le9 {x y : Nat} (hx : x < 1000000000) (hy : y < 1000000000) : (x : Int) * (y : Int) ≤ 999999998000000001 := by
  have : x * y ≤ 999999999 * 999999999 := Nat.mul_le_mul (by omega) (by omega)
  have e : ((x * y : Nat) : Int) = (x : Int) * y := by simp
  omega
def TimesInv (a b out : List Nat) (i k c : Nat) : Prop :=
  out.length = a.length + b.length ∧ Small out ∧ val out + 1000000000 ^ (i + k) * c = val (a.take i) * val b + 1000000000 ^ i * (a.getD i 0 * val (b.take k)) ∧ c < 1000000000 ∧ k ≤ b.length + 1
theorem TimesInv.inb {a b out : List Nat} {i k c : Nat} (h : TimesInv a b out i k c) (ha : Small a) (hb : Small b) (hg : k < b.length ∨ 0 < c) (hi : i < a.length) : i + k < a.length + b.length ∧ k ≤ b.length := by
  rcases Classical.em (k < b.length) with hk | hk
  · omega
  obtain ⟨h1, h2, h3, h4, h5⟩ := h
  have hc : 0 < c := by omega
  rw [val_take_all (show b.length ≤ k by omega)] at h3
  have e1 := val_take_getD a i
  have l1 := val_lt (ha.take (i + 1))
  rw [show (a.take (i + 1)).length = i + 1 by simp; omega, e1] at l1
  have l2 := val_lt hb
  have e2 : val (a.take i) * val b + 1000000000 ^ i * (a.getD i 0 * val b) = (val (a.take i) + 1000000000 ^ i * a.getD i 0) * val b := by
    rw [Nat.add_mul, Nat.mul_assoc]
  have l3 : (val (a.take i) + 1000000000 ^ i * a.getD i 0) * val b < 1000000000 ^ (i + 1) * 1000000000 ^ b.length :=
    Nat.lt_of_le_of_lt (Nat.mul_le_mul_left _ (Nat.le_of_lt l2)) (Nat.mul_lt_mul_of_pos_right l1 (pow_pos _))
  rw [← Nat.pow_add] at l3
  have l4 : 1000000000 ^ (i + k) * 1 ≤ 1000000000 ^ (i + k) * c := Nat.mul_le_mul_left _ hc
  have l5 : 1000000000 ^ (i + k) < 1000000000 ^ (i + 1 + b.length) := by omega
  have := (Nat.pow_lt_pow_iff_right (show 1 < 1000000000 by omega)).1 l5
  omega
theorem TimesInv.next {a b out : List Nat} {i k c s : Nat} (h : TimesInv a b out i k c) (ha : Small a) (hb : Small b) (hg : k < b.length ∨ 0 < c) (hi : i < a.length) (hs : s = out.getD (i + k) 0 + c + a.getD i 0 * b.getD k 0) :
    TimesInv a b (out.set (i + k) (s % 1000000000)) i (k + 1) (s / 1000000000) := by
  obtain ⟨hib, hkb⟩ := h.inb ha hb hg hi
  obtain ⟨h1, h2, h3, h4, h5⟩ := h
  have hx := getD_small ha i
  have hy := getD_small hb k
  have ho := getD_small h2 (i + k)
  have hm : a.getD i 0 * b.getD k 0 ≤ 999999999 * 999999999 := Nat.mul_le_mul (by omega) (by omega)
  refine ⟨by simp [h1], small_set h2 _ (Nat.mod_lt _ (by omega)), ?_, by omega, by omega⟩
  have sv := val_set (l := out) (j := i + k) (by omega) (s % 1000000000)
  rw [val_take_getD, Nat.mul_add, Nat.mul_add]
  have e : s % 1000000000 + 1000000000 * (s / 1000000000) = s := by omega
  have e2 : 1000000000 ^ (i + k) * (s % 1000000000) + 1000000000 ^ (i + (k + 1)) * (s / 1000000000) = 1000000000 ^ (i + k) * s := by
    rw [← Nat.add_assoc, pow_succ', Nat.mul_assoc, ← Nat.mul_add, e]
  have e3 : 1000000000 ^ (i + k) * s = 1000000000 ^ (i + k) * out.getD (i + k) 0 + 1000000000 ^ (i + k) * c + 1000000000 ^ (i + k) * (a.getD i 0 * b.getD k 0) := by rw [hs, Nat.mul_add, Nat.mul_add]
  have e4 : 1000000000 ^ i * (a.getD i 0 * (1000000000 ^ k * b.getD k 0)) = 1000000000 ^ (i + k) * (a.getD i 0 * b.getD k 0) := by
    rw [Nat.pow_add]; ac_rfl
  rw [e4]
  omega
theorem TimesInv.done {a b out : List Nat} {i k : Nat} (h : TimesInv a b out i k 0) (hk : b.length ≤ k) : val out = val (a.take (i + 1)) * val b := by
  have h3 := h.2.2.1
  rw [val_take_all hk] at h3
  rw [val_take_getD, Nat.add_mul, Nat.mul_assoc]
  omega
def TimesOut (a b out : List Nat) (i : Nat) : Prop := out.length = a.length + b.length ∧ Small out ∧ val out = val (a.take i) * val b
theorem TimesOut.start {a b out : List Nat} {i : Nat} (h : TimesOut a b out i) : TimesInv a b out i 0 0 :=
  ⟨h.1, h.2.1, by simp [h.2.2, val], by omega, by omega⟩
theorem val_rep (n : Nat) : val (List.replicate n 0) = 0 := by have := val_zeros [] n; simpa [val] using this
theorem small_rep (n : Nat) : Small (List.replicate n 0) := fun x hx => by
  have := (List.mem_replicate.1 hx).2
  omega
set_option maxRecDepth 100000 in
set_option maxHeartbeats 2000000 in
theorem timesL_any (A1 A2 : Option Addr) (a b : List Nat) (c1 c2 : Nat) (w : World) (ha : Small a) (hb : Small b) (hla : a.length ≤ 1000000) (hlb : b.length ≤ 1000000) (hra : Reads w w.heap.size 1 A1 a.length (limV a)) (hrb : Reads w w.heap.size 1 A2 b.length (limV b)) :
    Calls Tryz.prog 147 #[.slice A1 a.length c1, .slice A2 b.length c2] w fun e w' => (∃ v, e = .returned v ∧ Rep w' (a.length + b.length) v (val a * val b)) ∧ Below w.heap.size w w' := by
  obtain ⟨i0, hi, hz0, hz1, hz2⟩ := info_parts infoU
  go_enter Tryz.func147, Tryz.ntmps147
  go_wp2_with (at_make; refine wpList_make_full _ rfl _ _ 80 rfl w.heap.size 82 i0 (.int .u64 0) 1 Tryz.underlying80 hi hz0 hz1 .i64 .i64 ((a.length : Int) + (b.length : Int)) ((a.length : Int) + (b.length : Int)) (a.length + b.length) rfl rfl (by simp) (by simp) ?c1 ?c2 ?c3 ?_)
  case c1 => rw [hz2]; omega
  case c2 => unfold maxLen; omega
  case c3 => exact Nat.le_refl _
  intro w1 hown hg1
  have hb1 : Below w.heap.size w w1 := (Below.refl _ _).grown hg1 (Nat.le_refl _) (fun g hg => by cases hg)
  have hown1 : w1.ownsRow w.heap.size 82 1 (.slice (some ⟨w.heap.size, 0, none⟩) (a.length + b.length) (a.length + b.length)) (a.length + b.length) (limV (List.replicate (a.length + b.length) 0)) := by
    rw [limV_zeros, ← toList_madeCells_one, ← Nat.mul_one (a.length + b.length)]
    simpa using hown
  have HO := Lib.hid hown1
  have HT0 := Lib.hid (show TimesOut a b (List.replicate (a.length + b.length) 0) 0 from ⟨by simp, small_rep _, by simp [val_rep, val]⟩)
  clear hown hg1 hown1
  go_wp2
  go_loopw [19, 6, 7, 8, 9, 10] (fun s _ _ _ _ _ wr => ∃ (i : Nat) (out : List Nat), i ≤ a.length ∧ s = .int .i64 (i : Int) ∧ TimesOut a b out i ∧ wr.ownsRow w.heap.size 82 1 (.slice (some ⟨w.heap.size, 0, none⟩) (a.length + b.length) (a.length + b.length)) (a.length + b.length) (limV out) ∧ Below w.heap.size w wr) (fun s _ _ _ _ _ _ => a.length - (intOf s).toNat)
  case atStart => exact ⟨0, _, Nat.zero_le _, rfl, HT0.out, HO.out, hb1⟩
  case round =>
    obtain ⟨i, out, hil, rfl, hto, hown, hbr⟩ := hrel
    clear HO hb1 HT0
    have HTO := Lib.hid hto
    have HOW0 := Lib.hid hown
    clear hto hown
    by_cases hlt : i < a.length
    · obtain ⟨ad, rfl, hca⟩ := (hra.below hbr).limb hlt
      obtain ⟨x, hxe⟩ : ∃ x, a[i] = x := ⟨_, rfl⟩
      have hx : x < 1000000000 := by rw [← hxe]; exact ha.at_ hlt
      have HXD := Lib.hid (show a.getD i 0 = x by rw [← hxe]; simp [List.getD, hlt])
      rw [hxe] at hca
      clear hxe
      go_wp2
      go_loopw [8, 9, 10] (fun cc kk _ wr => ∃ (k c : Nat) (out : List Nat), kk = .int .i64 (k : Int) ∧ cc = .int .u64 (c : Int) ∧ TimesInv a b out i k c ∧ wr.ownsRow w.heap.size 82 1 (.slice (some ⟨w.heap.size, 0, none⟩) (a.length + b.length) (a.length + b.length)) (a.length + b.length) (limV out) ∧ Below w.heap.size w wr) (fun _ kk _ _ => b.length + 1 - (intOf kk).toNat)
      case atStart => exact ⟨0, 0, out, rfl, rfl, HTO.out.start, HOW0.out, hbr⟩
      case round =>
        obtain ⟨k, c, o2, rfl, rfl, hinv, hown, hbr2⟩ := hrel
        have hc1 : c < 1000000000 := hinv.2.2.2.1
        have hkb : k ≤ b.length + 1 := hinv.2.2.2.2
        have HL := Lib.hid hinv.1
        have HI := Lib.hid hinv
        clear HTO HOW0 hbr hca
        by_cases hgo : k < b.length ∨ 0 < c
        · have hin := hinv.inb ha hb hgo hlt
          have hik := hin.1
          have hkl := hin.2
          clear hkb
          have hgo := Lib.hid hgo
          have hi2 : i + k < o2.length := by rw [HL.out]; exact hik
          obtain ⟨o, hoe⟩ : ∃ o, o2[i + k] = o := ⟨_, rfl⟩
          have ho : o < 1000000000 := by rw [← hoe]; exact hinv.2.1.at_ hi2
          have HOD := Lib.hid (show o2.getD (i + k) 0 = o by rw [← hoe]; simp [List.getD, hi2])
          have hcell : wr.cell? ⟨w.heap.size, i + k, none⟩ = some (.int .u64 (o : Int)) := by
            rw [hown.cellAt (i + k) (by omega), limV_at hi2, hoe]
          have hf := hown.frozenAt (i + k)
          have HOW := Lib.hid hown
          clear hown hinv hoe hi2 hin
          by_cases kb : k < b.length
          · obtain ⟨bd, rfl, hcb⟩ := (hrb.below hbr2).limb kb
            obtain ⟨y, hye⟩ : ∃ y, b[k] = y := ⟨_, rfl⟩
            have hy : y < 1000000000 := by rw [← hye]; exact hb.at_ kb
            have hyd : b.getD k 0 = y := by rw [← hye]; simp [List.getD, kb]
            rw [hye] at hcb
            have HN := Lib.hid (HI.out.next ha hb (hgo.out) hlt (s := o + c + x * y) (by rw [HOD.out, HXD.out, hyd]))
            have HB1 := Lib.hid (HI.out.inb ha hb (hgo.out) hlt)
            clear hye hyd
            have hm := mul_le9 hx hy
            have hm0 : 0 ≤ (x : Int) * (y : Int) := Int.mul_nonneg (by omega) (by omega)
            have st := HOW.out.stored (i + k) (.int .u64 (((o + c + x * y) % 1000000000 : Nat) : Int))
            rw [limV_set] at st
            have HS := Lib.hid st.1
            have HB := Lib.hid (show Below w.heap.size w _ from hbr2.setCell (p := ⟨w.heap.size, i + k, none⟩) (Nat.le_refl _) (.int .u64 (((o + c + x * y) % 1000000000 : Nat) : Int)))
            clear st
            have ex : (((o + c + x * y) % 1000000000 : Nat) : Int) = ((o : Int) + (c : Int) + (x : Int) * (y : Int)) % 1000000000 := by simp
            rw [ex] at HS HB
            clear ex
            go_wp2
            go_roundw
            case rel => exact ⟨k + 1, (o + c + x * y) / 1000000000, _, by go_num, by simp, HN.out, HS.out, HB.out⟩
            case measure => simp [intOf]; omega
          · have hyd : b.getD k 0 = 0 := by simp [List.getD, show b.length ≤ k by omega]
            have HN := Lib.hid (HI.out.next ha hb (hgo.out) hlt (s := o + c) (by rw [HOD.out, HXD.out, hyd]; simp))
            have HB1 := Lib.hid (HI.out.inb ha hb (hgo.out) hlt)
            have hc0 : 0 < c := by have := hgo.out; omega
            clear hyd
            have st := HOW.out.stored (i + k) (.int .u64 (((o + c) % 1000000000 : Nat) : Int))
            rw [limV_set] at st
            have HS := Lib.hid st.1
            have HB := Lib.hid (show Below w.heap.size w _ from hbr2.setCell (p := ⟨w.heap.size, i + k, none⟩) (Nat.le_refl _) (.int .u64 (((o + c) % 1000000000 : Nat) : Int)))
            clear st
            have ex : (((o + c) % 1000000000 : Nat) : Int) = ((o : Int) + (c : Int)) % 1000000000 := by simp
            rw [ex] at HS HB
            clear ex
            go_wp2
            go_roundw
            case rel => exact ⟨k + 1, (o + c) / 1000000000, _, by go_num, by simp, HN.out, HS.out, HB.out⟩
            case measure => simp [intOf]; omega
        · have hc0 : c = 0 := by omega
          subst hc0
          have HT := Lib.hid (show TimesOut a b o2 (i + 1) from ⟨HL.out, hinv.2.1, hinv.done (by omega)⟩)
          have HOW := Lib.hid hown
          have hkl : b.length ≤ k := by omega
          clear hinv hown hgo
          go_wp2
          go_roundw
          case rel => exact ⟨i + 1, _, by omega, by go_num, HT.out, HOW.out, hbr2⟩
          case measure => simp [intOf]; omega
    · have hi0 : i = a.length := by omega
      have HV := Lib.hid (show val out = val a * val b by rw [HTO.out.2.2, val_take_all (by omega)])
      have HS := Lib.hid HTO.out.2.1
      have hlo : out.length = a.length + b.length := HTO.out.1
      have HLO := Lib.hid hlo
      have hr : Reads wr wr.heap.size 1 (some ⟨w.heap.size, 0, none⟩) out.length (limV out) := by
        have h := HOW0.out
        rw [← HLO.out] at h
        exact Reads.of_own h
      clear hlo
      go_wp2_with fail
      have tr := trim_any (some ⟨w.heap.size, 0, none⟩) out (a.length + b.length) wr.heap.size wr (by rw [HLO.out]; exact Nat.le_refl _) (by unfold maxLen; omega) hr
      rw [HLO.out] at tr
      refine tr.mono ?_
      clear tr
      rintro e w2 ⟨⟨m, hm, rfl, ht, hv⟩, rfl⟩
      have HR := Lib.hid (show Rep wr (a.length + b.length) (.slice (some ⟨w.heap.size, 0, none⟩) m (a.length + b.length)) (val a * val b) from rep_trim hr (by rw [HLO.out]; exact Nat.le_refl _) (by unfold maxLen; omega) (by rw [HLO.out]; exact hm) HS.out ht (hv.trans HV.out) hm)
      clear ht hv hr
      go_wp2
      go_ret
      exact ⟨⟨_, rfl, HR.out⟩, hbr⟩
end Go.Proofs.YtpanbeoelbhhgaaGreatDoor
namespace Go.Proofs.YtpanbeoelbhhgaaGreatDoor
open Go.RowKit Limb
def ShortInv (a outR : List Nat) (d m rest : Nat) : Prop := outR.length + m = a.length ∧ Small outR ∧ rest < d ∧ val (a.drop m) = val outR * d + rest
theorem val_drop {l : List Nat} {k : Nat} (h : k < l.length) : val (l.drop k) = l[k] + 1000000000 * val (l.drop (k + 1)) := by
  rw [List.drop_eq_getElem_cons h, val]
theorem ShortInv.next {a outR : List Nat} {d m rest : Nat} (h : ShortInv a outR d (m + 1) rest) {x s : Nat} (hx : a.getD m 0 = x) (hx1 : x < 1000000000) (hs : s = rest * 1000000000 + x) :
    ShortInv a (s / d :: outR) d m (s % d) := by
  obtain ⟨h1, h2, h3, h4⟩ := h
  have hm : m < a.length := by omega
  have hd : 0 < d := by omega
  have hq : s / d < 1000000000 := by
    rw [Nat.div_lt_iff_lt_mul hd]
    have : (rest + 1) * 1000000000 ≤ d * 1000000000 := Nat.mul_le_mul_right _ h3
    rw [Nat.mul_comm d] at this
    rw [Nat.add_mul] at this
    omega
  refine ⟨by simp; omega, fun y hy => ?_, Nat.mod_lt _ hd, ?_⟩
  · rcases List.mem_cons.1 hy with rfl | hy
    · exact hq
    · exact h2 y hy
  · rw [val_drop hm, h4, val]
    have e : a[m] = x := by rw [← hx]; simp [List.getD, hm]
    have e2 := Nat.div_add_mod s d
    rw [e, Nat.add_mul, Nat.mul_assoc, Nat.mul_comm (s / d)]
    omega
theorem ShortInv.done {a outR : List Nat} {d rest : Nat} (h : ShortInv a outR d 0 rest) : val outR = val a / d ∧ rest = val a % d := by
  obtain ⟨h1, h2, h3, h4⟩ := h
  rw [List.drop_zero] at h4
  have hd : 0 < d := by omega
  rw [h4, Nat.add_comm, Nat.add_mul_div_right _ _ hd, Nat.add_mul_mod_self_right, Nat.div_eq_of_lt h3, Nat.mod_eq_of_lt h3]
  omega
theorem set_down (outR : List Nat) (m x : Nat) : (List.replicate (m + 1) 0 ++ outR).set m x = List.replicate m 0 ++ x :: outR := by
  induction m with
  | zero => simp
  | succ m ih =>
    rw [List.replicate_succ, List.cons_append, List.set_cons_succ, ih, List.replicate_succ, List.cons_append]
set_option maxRecDepth 100000 in
set_option maxHeartbeats 2000000 in
theorem shortL_any (A1 : Option Addr) (a : List Nat) (c1 d : Nat) (w : World) (ha : Small a) (hla : a.length ≤ 1000000) (hd0 : 0 < d) (hd1 : d < 1000000000) (hra : Reads w w.heap.size 1 A1 a.length (limV a)) :
    Calls Tryz.prog 146 #[.slice A1 a.length c1, .int .u64 (d : Int)] w fun e w' => (∃ v, e = .returned (.tuple #[v, .int .u64 ((val a % d : Nat) : Int)]) ∧ Rep w' a.length v (val a / d)) ∧ Below w.heap.size w w' := by
  obtain ⟨i0, hi, hz0, hz1, hz2⟩ := info_parts infoU
  go_enter Tryz.func146, Tryz.ntmps146
  go_wp2_with (at_make; refine wpList_make_full _ rfl _ _ 80 rfl w.heap.size 82 i0 (.int .u64 0) 1 Tryz.underlying80 hi hz0 hz1 .i64 .i64 (a.length : Int) (a.length : Int) a.length rfl rfl rfl rfl ?c1 ?c2 ?c3 ?_)
  case c1 => rw [hz2]; omega
  case c2 => unfold maxLen; omega
  case c3 => exact Nat.le_refl _
  intro w1 hown hg1
  have hb1 : Below w.heap.size w w1 := (Below.refl _ _).grown hg1 (Nat.le_refl _) (fun g hg => by cases hg)
  have hown1 : w1.ownsRow w.heap.size 82 1 (.slice (some ⟨w.heap.size, 0, none⟩) a.length a.length) a.length (limV (List.replicate a.length 0 ++ [])) := by
    rw [List.append_nil, limV_zeros, ← toList_madeCells_one, ← Nat.mul_one a.length]
    simpa using hown
  have HO := Lib.hid hown1
  have HI0 := Lib.hid (show ShortInv a [] d a.length 0 from ⟨by simp, Small.nil, hd0, by simp [val]⟩)
  clear hown hg1 hown1
  go_wp2
  go_loopw [8, 7, 9] (fun i rr _ wr => ∃ (m rest : Nat) (outR : List Nat), m ≤ a.length ∧ i = .int .i64 ((m : Int) - 1) ∧ rr = .int .u64 (rest : Int) ∧ ShortInv a outR d m rest ∧ wr.ownsRow w.heap.size 82 1 (.slice (some ⟨w.heap.size, 0, none⟩) a.length a.length) a.length (limV (List.replicate m 0 ++ outR)) ∧ Below w.heap.size w wr) (fun i _ _ _ => (intOf i + 1).toNat)
  case atStart => exact ⟨a.length, 0, [], Nat.le_refl _, rfl, rfl, HI0.out, HO.out, hb1⟩
  case round =>
    obtain ⟨m, rest, outR, hml, rfl, rfl, hinv, hown, hbr⟩ := hrel
    clear HO hb1 HI0
    have hrd : rest < d := hinv.2.2.1
    have HI := Lib.hid hinv
    clear hinv
    by_cases h0 : 0 < m
    · obtain ⟨i, rfl⟩ : ∃ i, m = i + 1 := ⟨m - 1, by omega⟩
      have ec : ((i + 1 : Nat) : Int) - 1 = (i : Int) := by omega
      rw [ec]
      have hlt : i < a.length := by omega
      obtain ⟨ad, rfl, hca⟩ := (hra.below hbr).limb hlt
      obtain ⟨x, hxe⟩ : ∃ x, a[i] = x := ⟨_, rfl⟩
      have hx : x < 1000000000 := by rw [← hxe]; exact ha.at_ hlt
      have HXD := Lib.hid (show a.getD i 0 = x by rw [← hxe]; simp [List.getD, hlt])
      rw [hxe] at hca
      clear hxe
      have hcell : ∃ u, wr.cell? ⟨w.heap.size, i, none⟩ = some u := by
        rw [hown.cellAt i (by omega)]
        exact ⟨_, List.getElem?_eq_getElem (by rw [limV_len]; simp; omega)⟩
      obtain ⟨u, hu⟩ := hcell
      have hf := hown.frozenAt i
      have hsz : w.heap.size < wr.heap.size := block_lt_of_cell hu
      have HOW := Lib.hid hown
      clear hown
      have HN := Lib.hid (HI.out.next HXD.out hx rfl)
      have hq2 : (rest * 1000000000 + x) / d < 1000000000 := HN.out.2.1 _ (List.mem_cons_self ..)
      have hw : ((rest : Int) * 1000000000 + (x : Int)) / (d : Int) = (((rest * 1000000000 + x) / d : Nat) : Int) := by simp
      have hm : ((rest : Int) * 1000000000 + (x : Int)) % (d : Int) = (((rest * 1000000000 + x) % d : Nat) : Int) := by simp
      have hdi : (d : Int) ≠ 0 := by omega
      have HQ := Lib.hid hw
      have HM := Lib.hid hm
      clear hw hm hq2
      go_wp2_with fail
      go_region
      rw [HQ.out, HM.out]
      have st := HOW.out.stored i (.int .u64 (((rest * 1000000000 + x) / d : Nat) : Int))
      rw [limV_set, set_down] at st
      have HS := Lib.hid st.1
      have HB := Lib.hid (show Below w.heap.size w _ from hbr.setCell (p := ⟨w.heap.size, i, none⟩) (Nat.le_refl _) (.int .u64 (((rest * 1000000000 + x) / d : Nat) : Int)))
      clear st
      go_wp2
      go_roundw
      case rel => exact ⟨i, (rest * 1000000000 + x) % d, _, by omega, by go_num, rfl, HN.out, HS.out, HB.out.drew⟩
      case measure => simp [intOf]
    · obtain rfl : m = 0 := by omega
      have hd := HI.out.done
      have HV := Lib.hid hd.1
      have HS := Lib.hid HI.out.2.1
      have hlo : outR.length = a.length := HI.out.1
      have HLO := Lib.hid hlo
      have hr : Reads wr wr.heap.size 1 (some ⟨w.heap.size, 0, none⟩) outR.length (limV outR) := by
        have h := hown
        rw [← HLO.out] at h
        exact Reads.of_own h
      rw [hd.2]
      clear hlo hd hown
      go_wp2_with fail
      have tr := trim_any (some ⟨w.heap.size, 0, none⟩) outR a.length wr.heap.size wr (by rw [HLO.out]; exact Nat.le_refl _) (by unfold maxLen; omega) hr
      rw [HLO.out] at tr
      refine tr.mono ?_
      clear tr
      rintro e w2 ⟨⟨m, hm, rfl, ht, hv⟩, rfl⟩
      have HR := Lib.hid (show Rep wr a.length (.slice (some ⟨w.heap.size, 0, none⟩) m a.length) (val a / d) from rep_trim hr (by rw [HLO.out]; exact Nat.le_refl _) (by unfold maxLen; omega) (by rw [HLO.out]; exact hm) HS.out ht (hv.trans HV.out) hm)
      clear ht hv hr
      go_wp2
      go_ret2
      exact ⟨⟨_, rfl, HR.out⟩, hbr⟩
end Go.Proofs.YtpanbeoelbhhgaaGreatDoor
namespace Go.Proofs.YtpanbeoelbhhgaaGreatDoor
open Go.RowKit Limb
theorem getD_at {l : List Nat} {k : Nat} (h : k < l.length) : l.getD k 0 = l[k] := by simp [List.getD, h]
def tooMuchB (top guess x1 x2 next : Nat) : Bool := decide (top - guess * x1 < 1000000000) && decide ((top - guess * x1) * 1000000000 + next < guess * x2)
set_option maxRecDepth 100000 in
set_option maxHeartbeats 1000000 in
theorem tooMuch_any (A2 : Option Addr) (v : List Nat) (c2 top guess next x1 x2 : Nat) (w : World) (hn : 2 ≤ v.length) (hlv : v.length ≤ 1000000) (h1 : v.getD (v.length - 1) 0 = x1) (h2 : v.getD (v.length - 2) 0 = x2) (hv : Small v) (ht : top < 1000000000000000000) (hg : guess < 1000000000) (hle : guess * x1 ≤ top) (hx : next < 1000000000) (hrv : Reads w w.heap.size 1 A2 v.length (limV v)) :
    Calls Tryz.prog 185 #[.int .u64 (top : Int), .int .u64 (guess : Int), .slice A2 v.length c2, .int .u64 (next : Int)] w fun e w' => e = .returned (.bool (tooMuchB top guess x1 x2 next)) ∧ w = w' := by
  have hx1 : x1 < 1000000000 := by rw [← h1]; exact getD_small hv _
  have hx2 : x2 < 1000000000 := by rw [← h2]; exact getD_small hv _
  obtain ⟨ad, rfl, hc1⟩ := hrv.limb (k := v.length - 1) (by omega)
  obtain ⟨ad', e, hc2⟩ := hrv.limb (k := v.length - 2) (by omega)
  obtain rfl : ad = ad' := by injection e
  clear e
  rw [← getD_at, h1] at hc1
  rw [← getD_at, h2] at hc2
  clear h1 h2 hrv
  have m1 := mul_le9 hg hx1
  have m2 := mul_le9 hg hx2
  have p1 : 0 ≤ (guess : Int) * (x1 : Int) := Int.mul_nonneg (by omega) (by omega)
  have p2 : 0 ≤ (guess : Int) * (x2 : Int) := Int.mul_nonneg (by omega) (by omega)
  have hle' : (guess : Int) * (x1 : Int) ≤ (top : Int) := by exact_mod_cast hle
  have HS := Lib.hid (show ((top - guess * x1 : Nat) : Int) = (top : Int) - (guess : Int) * (x1 : Int) by rw [Int.ofNat_sub hle]; simp)
  have HT := Lib.hid (show ((guess * x2 : Nat) : Int) = (guess : Int) * (x2 : Int) by simp)
  clear hle
  go_enter Tryz.func185, Tryz.ntmps185
  by_cases b1 : (top : Int) - (guess : Int) * (x1 : Int) < 1000000000
  · by_cases b2 : ((top : Int) - (guess : Int) * (x1 : Int)) * 1000000000 + (next : Int) < (guess : Int) * (x2 : Int)
    · go_wp2
      go_ret
      refine ⟨ret_bool ?_, rfl⟩
      have := HS.out
      have := HT.out
      simp only [tooMuchB]
      rw [decide_eq_true (by omega), decide_eq_true (by omega)]
      rfl
    · go_wp2
      go_ret
      refine ⟨ret_bool ?_, rfl⟩
      have := HS.out
      have := HT.out
      simp only [tooMuchB]
      rw [decide_eq_true (by omega), decide_eq_false (by omega)]
      rfl
  · go_wp2
    go_ret
    refine ⟨ret_bool ?_, rfl⟩
    have := HS.out
    simp only [tooMuchB]
    rw [decide_eq_false (by omega)]
    rfl
end Go.Proofs.YtpanbeoelbhhgaaGreatDoor
namespace Go.Proofs.YtpanbeoelbhhgaaGreatDoor
open Go.RowKit Limb
theorem guess_start {U V ul vl P next top x1 x2 : Nat} (hU : U = ul + P * (next + 1000000000 * top)) (hul : ul < P) (hV : V = vl + P * (x2 + 1000000000 * x1)) (hn : next < 1000000000) (hx1 : 0 < x1) (hq : U < 1000000000 * V) (hV0 : 0 < V) :
    U / V ≤ min (top / x1) 999999999 := by
  have hqv : U / V * V ≤ U := Nat.div_mul_le_self U V
  have hqB : U / V < 1000000000 := (Nat.div_lt_iff_lt_mul hV0).2 hq
  generalize U / V = q at hqv hqB
  refine Nat.le_min.2 ⟨?_, by omega⟩
  rw [Nat.le_div_iff_mul_le hx1]
  refine Classical.byContradiction fun hc => ?_
  have h1 : P * (1000000000 * (top + 1)) ≤ P * (1000000000 * (q * x1)) := Nat.mul_le_mul_left _ (Nat.mul_le_mul_left _ (by omega))
  have e1 : P * (1000000000 * (top + 1)) = P * (next + 1000000000 * top) + P * (1000000000 - next) := by rw [← Nat.mul_add]; congr 1; omega
  have e3 : P * 1 ≤ P * (1000000000 - next) := Nat.mul_le_mul_left _ (by omega)
  have e2 : q * V = q * vl + P * (q * x2) + P * (1000000000 * (q * x1)) := by
    rw [hV, Nat.mul_add, Nat.mul_add, Nat.mul_add, ← Nat.add_assoc]
    congr 1
    · congr 1; ac_rfl
    · ac_rfl
  omega
theorem guess_step {U V ul vl P next top x1 x2 g : Nat} (hU : U = ul + P * (next + 1000000000 * top)) (hul : ul < P) (hV : V = vl + P * (x2 + 1000000000 * x1)) (hV0 : 0 < V) (hg1 : g * x1 ≤ top) (hm : tooMuchB top g x1 x2 next = true) : U / V ≤ g - 1 ∧ (g - 1) * x1 ≤ top := by
  simp only [tooMuchB, Bool.and_eq_true, decide_eq_true_eq] at hm
  obtain ⟨_, h2⟩ := hm
  refine ⟨?_, Nat.le_trans (Nat.mul_le_mul_right _ (Nat.sub_le g 1)) hg1⟩
  have hlt : U / V < g := by
    rw [Nat.div_lt_iff_lt_mul hV0]
    have e1 : P * (next + 1000000000 * top + 1) ≤ P * (g * x2 + 1000000000 * (g * x1)) := Nat.mul_le_mul_left _ (by omega)
    rw [Nat.mul_add] at e1
    have e2 : g * V = g * vl + P * (g * x2 + 1000000000 * (g * x1)) := by
      rw [hV, Nat.mul_add]
      congr 1
      rw [show g * x2 + 1000000000 * (g * x1) = g * (x2 + 1000000000 * x1) by rw [Nat.mul_add]; congr 1; ac_rfl]
      ac_rfl
    omega
  omega
theorem guess_done {U V ul vl P next top x1 x2 g : Nat} (hU : U = ul + P * (next + 1000000000 * top)) (hV : V = vl + P * (x2 + 1000000000 * x1)) (hvl : vl < P) (hx1 : 0 < x1) (hx2 : x2 < 1000000000) (hV0 : 0 < V) (hgB : g < 1000000000) (hg1 : g * x1 ≤ top) (hm : g = 0 ∨ tooMuchB top g x1 x2 next = false) : g ≤ U / V + 1 := by
  rcases hm with rfl | hm
  · exact Nat.zero_le _
  have hm' : g * x2 ≤ (top - g * x1) * 1000000000 + next := by
    simp only [tooMuchB, Bool.and_eq_false_iff, decide_eq_false_iff_not] at hm
    rcases hm with h | h
    · have h3 : g * x2 ≤ 999999999 * 999999999 := Nat.mul_le_mul (by omega) (by omega)
      omega
    · omega
  have h4 : g - 1 ≤ U / V := by
    rw [Nat.le_div_iff_mul_le hV0, Nat.sub_mul]
    have e1 : P * (g * x2 + 1000000000 * (g * x1)) ≤ P * (next + 1000000000 * top) := Nat.mul_le_mul_left _ (by omega)
    have e2 : g * V = g * vl + P * (g * x2 + 1000000000 * (g * x1)) := by
      rw [hV, Nat.mul_add]
      congr 1
      rw [show g * x2 + 1000000000 * (g * x1) = g * (x2 + 1000000000 * x1) by rw [Nat.mul_add]; congr 1; ac_rfl]
      ac_rfl
    have e3 : g * vl ≤ 1000000000 * P := Nat.mul_le_mul (by omega) (by omega)
    have e4 : P * (1000000000 * 1) ≤ P * (1000000000 * x1) := Nat.mul_le_mul_left _ (Nat.mul_le_mul_left _ hx1)
    rw [Nat.mul_add] at hV
    omega
  omega
/-- the two highest limbs of a number -/
theorem val_top2 {l : List Nat} {n : Nat} (h : l.length = n + 2) : val l = val (l.take n) + 1000000000 ^ n * (l.getD n 0 + 1000000000 * l.getD (n + 1) 0) := by
  have e1 := val_take_getD l (n + 1)
  have e2 := val_take_getD l n
  rw [val_take_all (by omega)] at e1
  rw [e1, e2, pow_succ', Nat.mul_add, Nat.mul_assoc]
  omega
theorem val_top3 {l : List Nat} {n : Nat} (h : l.length = n + 3) : val l = val (l.take n) + 1000000000 ^ n * (l.getD n 0 + 1000000000 * (l.getD (n + 1) 0 + 1000000000 * l.getD (n + 2) 0)) := by
  have e0 := val_take_getD l (n + 2)
  have e1 := val_take_getD l (n + 1)
  have e2 := val_take_getD l n
  rw [val_take_all (by omega)] at e0
  rw [e0, e1, e2, pow_succ' (n + 1), pow_succ' n, Nat.mul_add, Nat.mul_add, Nat.mul_add]
  rw [Nat.mul_assoc, Nat.mul_assoc, Nat.mul_assoc, Nat.add_assoc, Nat.add_assoc]
theorem take_lt {l : List Nat} (h : Small l) {n : Nat} (hn : n ≤ l.length) : val (l.take n) < 1000000000 ^ n := by
  have := val_lt (h.take n)
  rwa [show (l.take n).length = n by simp; omega] at this
def SubInv (W v out : List Nat) (g i c : Nat) : Prop :=
  out.length = i ∧ Small out ∧ val out + g * val (v.take i) = val (W.take i) + 1000000000 ^ i * c ∧ c < 1000000000
/-- s: what is taken away with the borrow; y: the new limb -/
theorem SubInv.next {W v out : List Nat} {g i c : Nat} (h : SubInv W v out g i c) {s y c' : Nat} (hs : s = c + g * v.getD i 0) (hy : y < 1000000000) (hc : c' < 1000000000) (he : y + s = W.getD i 0 + 1000000000 * c') :
    SubInv W v (out ++ [y]) g (i + 1) c' := by
  obtain ⟨h1, h2, h3, h4⟩ := h
  refine ⟨by simp [h1], h2.snoc hy, ?_, hc⟩
  rw [val_snoc, h1, val_take_getD, val_take_getD, pow_succ', Nat.mul_add]
  have e : 1000000000 ^ i * (y + s) = 1000000000 ^ i * (W.getD i 0 + 1000000000 * c') := by rw [he]
  rw [Nat.mul_add, Nat.mul_add, hs, Nat.mul_add, ← Nat.mul_assoc _ _ c'] at e
  have e2 : g * (1000000000 ^ i * v.getD i 0) = 1000000000 ^ i * (g * v.getD i 0) := by ac_rfl
  omega
/-- the borrow stays below the base -/
theorem sub_carry {u s g x c : Nat} (hg : g < 1000000000) (hx : x < 1000000000) (hc : c < 1000000000) (hs : s = c + g * x) : s / 1000000000 < 1000000000 ∧ (u < s % 1000000000 → s / 1000000000 + 1 < 1000000000) := by
  have hm : g * x ≤ 999999999 * 999999999 := Nat.mul_le_mul (by omega) (by omega)
  omega
theorem SubInv.done {W v out : List Nat} {g n c q : Nat} (h : SubInv W v out g (n + 1) c) (hv : v.length = n) (hW : W.length = n + 1) (hq : q = val W / val v) (h1 : q ≤ g) (h2 : g ≤ q + 1) (hsv : Small v) (hV : 0 < val v) :
    (c = 0 → g = q ∧ val out = val W % val v) ∧ (c ≠ 0 → g = q + 1 ∧ c = 1 ∧ val out + val v = val W % val v + 1000000000 ^ (n + 1)) := by
  obtain ⟨e1, e2, e3, e4⟩ := h
  rw [val_take_all (by omega), val_take_all (by omega)] at e3
  have hl := val_lt e2
  rw [e1] at hl
  have hm := Nat.div_add_mod (val W) (val v)
  rw [← hq] at hm
  have hr := Nat.mod_lt (val W) hV
  have hvl := val_lt hsv
  rw [hv] at hvl
  have hpp := pow_mono (Nat.le_succ n)
  have : g = q ∨ g = q + 1 := by omega
  rw [Nat.mul_comm] at hm
  constructor
  · rintro rfl
    rcases this with rfl | rfl
    · exact ⟨rfl, by omega⟩
    · rw [Nat.add_mul] at e3
      omega
  · intro hc
    have hcp : 1000000000 ^ (n + 1) * 1 ≤ 1000000000 ^ (n + 1) * c := Nat.mul_le_mul_left _ (by omega)
    rcases this with rfl | rfl
    · omega
    · rw [Nat.add_mul] at e3
      refine ⟨rfl, ?_⟩
      have hc2 : c < 2 := by
        refine Classical.byContradiction fun hcc => ?_
        have : 1000000000 ^ (n + 1) * 2 ≤ 1000000000 ^ (n + 1) * c := Nat.mul_le_mul_left _ (by omega)
        omega
      obtain rfl : c = 1 := by omega
      exact ⟨rfl, by omega⟩
def AddInv (W v out : List Nat) (i c : Nat) : Prop :=
  out.length = i ∧ Small out ∧ val out + 1000000000 ^ i * c = val (W.take i) + val (v.take i) ∧ c ≤ 1
theorem AddInv.next {W v out : List Nat} {i c : Nat} (h : AddInv W v out i c) {s : Nat} (hs : s = W.getD i 0 + c + v.getD i 0) (hW : Small W) (hv : Small v) :
    AddInv W v (out ++ [s % 1000000000]) (i + 1) (s / 1000000000) := by
  obtain ⟨h1, h2, h3, h4⟩ := h
  have ga := getD_small hW i
  have gb := getD_small hv i
  refine ⟨by simp [h1], h2.snoc (Nat.mod_lt _ (by omega)), ?_, by omega⟩
  rw [val_snoc, h1, val_take_getD, val_take_getD, pow_succ']
  have := plus_step (P := 1000000000 ^ i) (p := val out) (x := W.getD i 0) (y := v.getD i 0) (s := s) h3 (by omega)
  omega
theorem AddInv.done {W v out : List Nat} {n c r : Nat} (h : AddInv W v out (n + 1) c) (hv : v.length = n) (hW : W.length = n + 1) (he : val W + val v = r + 1000000000 ^ (n + 1)) (_hr : r < 1000000000 ^ (n + 1)) : val out = r := by
  obtain ⟨e1, e2, e3, e4⟩ := h
  rw [val_take_all (by omega), val_take_all (by omega)] at e3
  have hl := val_lt e2
  rw [e1] at hl
  have : c = 0 ∨ c = 1 := by omega
  rcases this with rfl | rfl <;> omega
/-- a window of a list: its limb at i is written anew -/
theorem set_win (X out R Z : List Nat) (x y : Nat) : (X ++ (out ++ x :: R) ++ Z).set (X.length + out.length) y = X ++ ((out ++ [y]) ++ R) ++ Z := by
  simp
end Go.Proofs.YtpanbeoelbhhgaaGreatDoor
