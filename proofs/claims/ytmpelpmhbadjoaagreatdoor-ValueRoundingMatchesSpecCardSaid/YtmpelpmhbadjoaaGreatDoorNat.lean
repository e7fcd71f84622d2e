/- The walks of the naturals: trim, small, plus. Conditions: lengths are small. -/
import Derived.Test.YtmpelpmhbadjoaaGreatDoorNOrd
import Derived.Test.YtmpelpmhbadjoaaGreatDoorLimb
import Derived.Carry
namespace Go.Proofs.YtmpelpmhbadjoaaGreatDoor
open Go.RowKit Limb

def limV (l : List Nat) : List Value := l.map fun (x : Nat) => Value.int .u64 (x : Int)
theorem limV_len (l : List Nat) : (limV l).length = l.length := by simp [limV]
theorem limV_append (l r : List Nat) : limV (l ++ r) = limV l ++ limV r := by simp [limV]
theorem limV_take (l : List Nat) (m : Nat) : (limV l).take m = limV (l.take m) := by simp [limV, List.map_take]
theorem limV_at {l : List Nat} {k : Nat} (h : k < l.length) : (limV l)[k]? = some (.int .u64 (l[k] : Int)) := by simp [limV, h]
theorem limV_get (l : List Nat) (k : Nat) (u : Value) (h : (limV l)[k]? = some u) : ∃ h : k < l.length, u = .int .u64 (l[k] : Int) := by
  have hl : k < l.length := by
    have := (List.getElem?_eq_some_iff.1 h).1
    rwa [limV_len] at this
  rw [limV_at hl] at h
  exact ⟨hl, by injection h with h; exact h.symm⟩
/-- The cell of a limb. -/
theorem Reads.limb {w : World} {B' n : Nat} {A : Option Addr} {l : List Nat} (h : Reads w B' 1 A n (limV l)) {k : Nat} (hk : k < l.length) : ∃ ad, A = some ad ∧ w.cell? (ad.add k) = some (.int .u64 (l[k] : Int)) := by
  have hn : n = l.length := by have := h.1; rw [limV_len] at this; omega
  obtain ⟨ad, u, e, _, hu, hc⟩ := h.at_ (show k < n by omega)
  rw [limV_at hk] at hu
  injection hu with hu
  exact ⟨ad, e, by rw [hc, hu]⟩
/-- A natural in memory. -/
structure Rep (w : World) (L : Nat) (v : Value) (x : Nat) : Prop where
  ex : ∃ (l : List Nat) (A : Option Addr) (c : Nat), v = .slice A l.length c ∧ Small l ∧ Top l ∧ val l = x ∧ Reads w w.heap.size 1 A l.length (limV l) ∧ l.length ≤ c ∧ c ≤ maxLen ∧ l.length ≤ L
theorem Rep.mono {w : World} {L L' : Nat} {v : Value} {x : Nat} (h : Rep w L v x) (hL : L ≤ L') : Rep w L' v x := by
  obtain ⟨l, A, c, h1, h2, h3, h4, h5, h6, h7, h8⟩ := h.ex
  exact ⟨l, A, c, h1, h2, h3, h4, h5, h6, h7, by omega⟩
theorem Rep.below {w w' : World} {L : Nat} {v : Value} {x : Nat} (h : Rep w L v x) (hb : Below w.heap.size w w') : Rep w' L v x := by
  obtain ⟨l, A, c, h1, h2, h3, h4, h5, h6⟩ := h.ex
  exact ⟨l, A, c, h1, h2, h3, h4, (h5.below hb).more hb.size, h6⟩

theorem trim_any (A : Option Addr) (l : List Nat) (c B' : Nat) (w : World) (hc : l.length ≤ c) (hm : c ≤ maxLen) (hx : Reads w B' 1 A l.length (limV l)) :
    Calls Tryz.prog 69 #[.slice A l.length c] w fun e w' => (∃ m, m ≤ l.length ∧ e = .returned (.slice A m c) ∧ Top (l.take m) ∧ val (l.take m) = val l) ∧ w = w' := by
  unfold maxLen at hm
  go_enter Tryz.func69, Tryz.ntmps69
  go_wp2
  go_loop [0] (fun s => ∃ m : Nat, m ≤ l.length ∧ s = .slice A m c ∧ val (l.take m) = val l) (fun s => match s with | .slice _ n _ => n | _ => 0)
  case atStart => exact ⟨l.length, Nat.le_refl _, rfl, by rw [List.take_length]⟩
  case round =>
    obtain ⟨m, hml, rfl, hv⟩ := hrel
    have HV := Lib.hid hv
    clear hv
    by_cases h0 : 0 < m
    · have hk : m - 1 < l.length := by omega
      obtain ⟨ad, rfl, hcell⟩ := hx.limb hk
      by_cases hz : l[m - 1] = 0
      · have hz1 : ((l[m - 1] : Int) == 0) = true := by simp [hz]
        have hz2 : val (l.take (m - 1)) = val l := by
          have := val_take_succ hk
          rw [show m - 1 + 1 = m from by omega, hz] at this
          rw [← HV.out, this]
          omega
        have HZ := Lib.hid hz2
        clear hz hz2
        go_wp2
        go_round
        case rel => exact ⟨m - 1, by omega, rfl, HZ.out⟩
        case measure => simp; omega
      · have hz1 : ((l[m - 1] : Int) == 0) = false := by simp; omega
        have HT : Hid (Top (l.take m)) := by
          intro hne
          rw [List.getLast_eq_getElem]
          simp only [List.getElem_take]
          have e : (l.take m).length - 1 = m - 1 := by simp; omega
          simp only [e]
          exact hz
        clear hz
        go_wp2
        go_ret
        exact ⟨⟨m, hml, rfl, HT.out, HV.out⟩, rfl⟩
    · obtain rfl : m = 0 := by omega
      go_wp2
      go_ret
      exact ⟨⟨0, hml, rfl, fun h => absurd rfl h, HV.out⟩, rfl⟩

theorem infoU : (Tryz.prog.info? 44).map (fun i => (i.zero, i.size, i.bytes)) = some (some (.int .u64 0), 1, 8) := by kernel_rfl
theorem own_form {w : World} {B' : Nat} {e : TypeId} {v : Value} {l : List Nat} (h : w.ownsRow B' e 1 v l.length (limV l)) : ∃ A c, v = .slice A l.length c ∧ Reads w w.heap.size 1 A l.length (limV l) ∧ l.length ≤ c ∧ c ≤ maxLen := by
  obtain ⟨h1, h2⟩ := h
  rcases h2 with ⟨rfl, e0⟩ | ⟨g, cap, cur, rfl, e1, e2, e3, e4, e5⟩
  · have hl : l = [] := List.eq_nil_of_length_eq_zero e0
    subst hl
    exact ⟨none, 0, rfl, Reads.none_, Nat.le_refl _, Nat.zero_le _⟩
  · exact ⟨_, cap, rfl, Reads.of_own (c := cap) ⟨h1, .inr ⟨g, cap, cur, rfl, e1, e2, e3, e4, e5⟩⟩, e3, e4⟩
theorem reads_takeL {w : World} {B' : Nat} {A : Option Addr} {l : List Nat} {m : Nat} (h : Reads w B' 1 A l.length (limV l)) (hm : m ≤ l.length) : Reads w B' 1 A (l.take m).length (limV (l.take m)) := by
  have hl : (l.take m).length = m := by simp; omega
  rw [hl]
  refine ⟨by rw [limV_len, hl]; omega, fun h0 => ?_⟩
  obtain ⟨ad, e, hb, hc⟩ := h.2 (by omega)
  refine ⟨ad, e, hb, fun j u hj => hc j u ?_⟩
  rw [← limV_take, List.getElem?_take] at hj
  split at hj
  · exact hj
  · cases hj
theorem rep_trim {w : World} {A : Option Addr} {L c x m : Nat} {l : List Nat} (h : Reads w w.heap.size 1 A l.length (limV l)) (hc : l.length ≤ c) (hx : c ≤ maxLen) (hm : m ≤ l.length) (hs : Small l) (ht : Top (l.take m)) (hv : val (l.take m) = x) (hL : m ≤ L) : Rep w L (.slice A m c) x := by
  have hl : (l.take m).length = m := by simp; omega
  refine ⟨l.take m, A, c, by rw [hl], hs.take m, ht, hv, reads_takeL h hm, by omega, hx, by omega⟩
theorem rep_own {w : World} {B' : Nat} {e : TypeId} {v : Value} {l : List Nat} {L x : Nat} (h : w.ownsRow B' e 1 v l.length (limV l)) (hs : Small l) (ht : Top l) (hv : val l = x) (hL : l.length ≤ L) : Rep w L v x := by
  obtain ⟨A, c, rfl, hr, h1, h2⟩ := own_form h
  exact ⟨l, A, c, rfl, hs, ht, hv, hr, h1, h2, hL⟩

def SmallInv (n : Nat) (out : List Nat) (m : Nat) : Prop :=
  n = val out + 1000000000 ^ out.length * m ∧ Small out ∧ (m = 0 → Top out) ∧
  ((out.length = 0 ∧ m ≤ 18446744073709551615) ∨ (out.length = 1 ∧ m ≤ 18446744073) ∨ (out.length = 2 ∧ m ≤ 18) ∨ (out.length = 3 ∧ m = 0))
theorem SmallInv.next {n m : Nat} {out : List Nat} (h : SmallInv n out m) (h0 : 0 < m) : SmallInv n (out ++ [m % 1000000000]) (m / 1000000000) := by
  obtain ⟨h1, h2, h3, h4⟩ := h
  refine ⟨?_, h2.snoc (Nat.mod_lt _ (by omega)), ?_, ?_⟩
  · rw [val_snoc, List.length_append, List.length_singleton, pow_succ', Nat.add_assoc, Nat.mul_assoc, ← Nat.mul_add, Nat.mod_add_div, h1]
  · intro hm hne
    have e : (out ++ [m % 1000000000]).getLast hne = m % 1000000000 := by simp
    rw [e]
    omega
  · rw [List.length_append, List.length_singleton]
    omega
theorem SmallInv.len {n m : Nat} {out : List Nat} (h : SmallInv n out m) (h0 : 0 < m) : out.length ≤ 2 := by
  have := h.2.2.2
  omega
set_option maxHeartbeats 400000 in
theorem small_any (n : Nat) (w : World) (hn : n ≤ 18446744073709551615) :
    Calls Tryz.prog 23 #[.int .u64 n] w fun e w' => (∃ v, e = .returned v ∧ Rep w' 3 v n) ∧ Below w.heap.size w w' := by
  have hi0 : SmallInv n [] n := ⟨by simp [val], Small.nil, fun _ h => absurd rfl h, .inl ⟨rfl, hn⟩⟩
  clear hn
  obtain ⟨i0, hi, hz0, hz1, hz2⟩ := info_parts infoU
  go_enter Tryz.func23, Tryz.ntmps23
  go_wp2
  go_loopw [0, 3] (fun s v wr => ∃ (m : Nat) (out : List Nat), s = .int .u64 (m : Int) ∧ SmallInv n out m ∧ wr.ownsRow w.heap.size 44 1 v out.length (limV out) ∧ Below w.heap.size w wr) (fun s _ _ => (intOf s).toNat)
  case atStart => exact ⟨n, [], rfl, hi0, World.ownsRow_nil _ _ _ _, Below.refl _ _⟩
  case round =>
    obtain ⟨m, out, rfl, hinv, hown, hb⟩ := hrel
    clear hi0
    by_cases h0 : 0 < m
    · have hlen := hinv.len h0
      have hq : (m : Int) / 1000000000 ≤ 18446744073 := by have := hinv.2.2.2; omega
      have HN := Lib.hid (hinv.next h0)
      clear hinv
      go_wp2_with (at_builtin; refine wpList_append_own _ rfl _ _ 42 rfl w.heap.size 44 i0 (.int .u64 0) 1 8 Tryz.underlying42 hi hz0 hz1 hz2 rfl (by decide) _ _ _ rfl (hown.alloc _) ⟨wr.heap.size, 0, none⟩ 1 1 [.int .u64 ((m % 1000000000 : Nat) : Int)] rfl rfl ?c1 ?c2 ?c3 ?c4 ?c5 ?_)
      case c1 => intro j u hj; cases j <;> simp_all [go_sem]
      case c2 => intro u hu; simp only [List.mem_singleton] at hu; subst hu; rfl
      case c3 => unfold maxLen; omega
      case c4 => omega
      case c5 => have := hb.size; simp; omega
      intro v2 w2 hown2 hg2 _
      have hrow : ∀ g, u3.ownBlock = some g → w.heap.size ≤ g := fun g hg => (hown.lt g hg).1
      have hb2 : Below w.heap.size w w2 := (hb.alloc hb.size _).grown hg2 (by have := hb.size; simp; omega) hrow
      have HO := Lib.hid (show w2.ownsRow w.heap.size 44 1 v2 (out ++ [m % 1000000000]).length (limV (out ++ [m % 1000000000])) by rw [limV_append, List.length_append]; exact hown2)
      clear hown2 hg2 hrow hown
      go_wp2
      go_roundw
      case rel => exact ⟨m / 1000000000, _, by go_num, HN.out, HO.out, hb2⟩
      case measure => simp [intOf]; omega
    · obtain rfl : m = 0 := by omega
      have HO := Lib.hid hown
      clear hown
      go_wp2
      go_ret
      obtain ⟨h1, h2, h3, h4⟩ := hinv
      exact ⟨⟨_, rfl, rep_own HO.out h2 (h3 rfl) (by simpa using h1.symm) (by omega)⟩, hb⟩

theorem val_take_getD (l : List Nat) (k : Nat) : val (l.take (k + 1)) = val (l.take k) + 1000000000 ^ k * l.getD k 0 := by
  by_cases h : k < l.length
  · rw [val_take_succ h]; simp [List.getD, h]
  · rw [List.take_of_length_le (by omega), List.take_of_length_le (by omega)]
    simp [List.getD, show l.length ≤ k by omega]
theorem getD_small {l : List Nat} (h : Small l) (k : Nat) : l.getD k 0 < 1000000000 := by
  by_cases hk : k < l.length
  · simp [List.getD, hk]; exact h.at_ hk
  · simp [List.getD, show l.length ≤ k by omega]
def PlusInv (a b out : List Nat) (k c : Nat) : Prop :=
  out.length = k ∧ Small out ∧ val out + 1000000000 ^ k * c = val (a.take k) + val (b.take k) ∧ c ≤ 1 ∧ (k ≤ max a.length b.length ∨ (k = max a.length b.length + 1 ∧ c = 0))
theorem PlusInv.next {a b out : List Nat} {k c s : Nat} (h : PlusInv a b out k c) (ha : Small a) (hb : Small b) (hs : s = c + a.getD k 0 + b.getD k 0) (hk : k < a.length ∨ k < b.length ∨ 0 < c) :
    PlusInv a b (out ++ [s % 1000000000]) (k + 1) (s / 1000000000) := by
  obtain ⟨h1, h2, h3, h4, h5⟩ := h
  have ga := getD_small ha k
  have gb := getD_small hb k
  refine ⟨by simp [h1], h2.snoc (Nat.mod_lt _ (by omega)), ?_, by omega, ?_⟩
  · rw [val_snoc, h1, val_take_getD, val_take_getD, pow_succ']
    have := plus_step (P := 1000000000 ^ k) (p := val out) (x := a.getD k 0) (y := b.getD k 0) (s := s) h3 (by omega)
    omega
  · by_cases hm : k < max a.length b.length
    · omega
    · have e1 : a.getD k 0 = 0 := by simp [List.getD, show a.length ≤ k by omega]
      have e2 : b.getD k 0 = 0 := by simp [List.getD, show b.length ≤ k by omega]
      omega
set_option maxRecDepth 100000 in
set_option maxHeartbeats 1000000 in
theorem plusL_any (A1 A2 : Option Addr) (a b : List Nat) (c1 c2 : Nat) (w : World) (ha : Small a) (hb : Small b) (hla : a.length ≤ 1000000) (hlb : b.length ≤ 1000000) (hra : Reads w w.heap.size 1 A1 a.length (limV a)) (hrb : Reads w w.heap.size 1 A2 b.length (limV b)) :
    Calls Tryz.prog 66 #[.slice A1 a.length c1, .slice A2 b.length c2] w fun e w' => (∃ v, e = .returned v ∧ Rep w' (max a.length b.length + 1) v (val a + val b)) ∧ Below w.heap.size w w' := by
  obtain ⟨i0, hi, hz0, hz1, hz2⟩ := info_parts infoU
  go_enter Tryz.func66, Tryz.ntmps66
  go_wp2
  go_loopw [7, 6, 5, 8] (fun i cc v _ wr => ∃ (k c : Nat) (out : List Nat), i = .int .i64 (k : Int) ∧ cc = .int .u64 (c : Int) ∧ PlusInv a b out k c ∧ wr.ownsRow w.heap.size 44 1 v out.length (limV out) ∧ Below w.heap.size w wr) (fun i _ _ _ _ => max a.length b.length + 1 - (intOf i).toNat)
  case atStart => exact ⟨0, 0, [], rfl, rfl, ⟨rfl, Small.nil, by simp [val], by omega, by omega⟩, World.ownsRow_nil _ _ _ _, Below.refl _ _⟩
  case round =>
    obtain ⟨k, c, out, rfl, rfl, hinv, hown, hbr⟩ := hrel
    have hk0 : k ≤ max a.length b.length + 1 := by have := hinv.2.2.2.2; omega
    have hc1 : c ≤ 1 := hinv.2.2.2.1
    have hlen := hinv.1
    by_cases hgo : k < a.length ∨ k < b.length ∨ 0 < c
    · have HN := Lib.hid (hinv.next (s := c + a.getD k 0 + b.getD k 0) ha hb rfl hgo)
      have hk1 : k ≤ max a.length b.length := by have := hinv.2.2.2.2; omega
      have hx : a.getD k 0 < 1000000000 := getD_small ha k
      have hy : b.getD k 0 < 1000000000 := getD_small hb k
      have HI := Lib.hid hinv
      clear hinv
      by_cases ka : k < a.length <;> by_cases kb : k < b.length
      · obtain ⟨ad, rfl, hca⟩ := (hra.below hbr).limb ka
        obtain ⟨x, hxe⟩ : ∃ x, a[k] = x := ⟨_, rfl⟩
        have hxd : a.getD k 0 = x := by rw [← hxe]; simp [List.getD, ka]
        rw [hxe] at hca
        rw [hxd] at HN hx
        clear hxe hxd
        obtain ⟨bd, rfl, hcb⟩ := (hrb.below hbr).limb kb
        obtain ⟨y, hye⟩ : ∃ y, b[k] = y := ⟨_, rfl⟩
        have hyd : b.getD k 0 = y := by rw [← hye]; simp [List.getD, kb]
        rw [hye] at hcb
        rw [hyd] at HN hy
        clear hye hyd
        clear hgo
        go_wp2_with (at_builtin; refine wpList_append_own _ rfl _ _ 42 rfl w.heap.size 44 i0 (.int .u64 0) 1 8 Tryz.underlying42 hi hz0 hz1 hz2 rfl (by decide) _ _ _ rfl (hown.alloc _) ⟨wr.heap.size, 0, none⟩ 1 1 [.int .u64 (((c : Int) + (x : Int) + (y : Int)) % 1000000000)] rfl rfl ?c1 ?c2 ?c3 ?c4 ?c5 ?_)
        case c1 => intro j u hj; cases j <;> simp_all [go_sem]
        case c2 => intro u hu; simp only [List.mem_singleton] at hu; subst hu; rfl
        case c3 => unfold maxLen; omega
        case c4 => omega
        case c5 => have := hbr.size; simp; omega
        intro v2 w2 hown2 hg2 _
        have hrow : ∀ g, u5.ownBlock = some g → w.heap.size ≤ g := fun g hg => (hown.lt g hg).1
        have hb2 : Below w.heap.size w w2 := (hbr.alloc hbr.size _).grown hg2 (by have := hbr.size; simp; omega) hrow
        have HO := Lib.hid (show w2.ownsRow w.heap.size 44 1 v2 (out ++ [(c + x + y) % 1000000000]).length (limV (out ++ [(c + x + y) % 1000000000])) by
          have e : limV (out ++ [(c + x + y) % 1000000000]) = limV out ++ [.int .u64 (((c : Int) + (x : Int) + (y : Int)) % 1000000000)] := by rw [limV_append]; simp [limV]
          rw [e, List.length_append, hlen]
          exact hown2)
        clear hown2 hg2 hrow hown
        go_wp2
        go_roundw
        case rel => exact ⟨k + 1, (c + x + y) / 1000000000, _, by go_num, by simp, HN.out, HO.out, hb2⟩
        case measure => simp [intOf]; omega
      · obtain ⟨ad, rfl, hca⟩ := (hra.below hbr).limb ka
        obtain ⟨x, hxe⟩ : ∃ x, a[k] = x := ⟨_, rfl⟩
        have hxd : a.getD k 0 = x := by rw [← hxe]; simp [List.getD, ka]
        rw [hxe] at hca
        rw [hxd] at HN hx
        clear hxe hxd
        have hyd : b.getD k 0 = 0 := by simp [List.getD, show b.length ≤ k by omega]
        rw [hyd, Nat.add_zero] at HN
        clear hyd hy
        clear hgo
        go_wp2_with (at_builtin; refine wpList_append_own _ rfl _ _ 42 rfl w.heap.size 44 i0 (.int .u64 0) 1 8 Tryz.underlying42 hi hz0 hz1 hz2 rfl (by decide) _ _ _ rfl (hown.alloc _) ⟨wr.heap.size, 0, none⟩ 1 1 [.int .u64 (((c : Int) + (x : Int)) % 1000000000)] rfl rfl ?c1 ?c2 ?c3 ?c4 ?c5 ?_)
        case c1 => intro j u hj; cases j <;> simp_all [go_sem]
        case c2 => intro u hu; simp only [List.mem_singleton] at hu; subst hu; rfl
        case c3 => unfold maxLen; omega
        case c4 => omega
        case c5 => have := hbr.size; simp; omega
        intro v2 w2 hown2 hg2 _
        have hrow : ∀ g, u5.ownBlock = some g → w.heap.size ≤ g := fun g hg => (hown.lt g hg).1
        have hb2 : Below w.heap.size w w2 := (hbr.alloc hbr.size _).grown hg2 (by have := hbr.size; simp; omega) hrow
        have HO := Lib.hid (show w2.ownsRow w.heap.size 44 1 v2 (out ++ [(c + x) % 1000000000]).length (limV (out ++ [(c + x) % 1000000000])) by
          have e : limV (out ++ [(c + x) % 1000000000]) = limV out ++ [.int .u64 (((c : Int) + (x : Int)) % 1000000000)] := by rw [limV_append]; simp [limV]
          rw [e, List.length_append, hlen]
          exact hown2)
        clear hown2 hg2 hrow hown
        go_wp2
        go_roundw
        case rel => exact ⟨k + 1, (c + x) / 1000000000, _, by go_num, by simp, HN.out, HO.out, hb2⟩
        case measure => simp [intOf]; omega
      · have hxd : a.getD k 0 = 0 := by simp [List.getD, show a.length ≤ k by omega]
        rw [hxd, Nat.add_zero] at HN
        clear hxd hx
        obtain ⟨bd, rfl, hcb⟩ := (hrb.below hbr).limb kb
        obtain ⟨y, hye⟩ : ∃ y, b[k] = y := ⟨_, rfl⟩
        have hyd : b.getD k 0 = y := by rw [← hye]; simp [List.getD, kb]
        rw [hye] at hcb
        rw [hyd] at HN hy
        clear hye hyd
        clear hgo
        go_wp2_with (at_builtin; refine wpList_append_own _ rfl _ _ 42 rfl w.heap.size 44 i0 (.int .u64 0) 1 8 Tryz.underlying42 hi hz0 hz1 hz2 rfl (by decide) _ _ _ rfl (hown.alloc _) ⟨wr.heap.size, 0, none⟩ 1 1 [.int .u64 (((c : Int) + (y : Int)) % 1000000000)] rfl rfl ?c1 ?c2 ?c3 ?c4 ?c5 ?_)
        case c1 => intro j u hj; cases j <;> simp_all [go_sem]
        case c2 => intro u hu; simp only [List.mem_singleton] at hu; subst hu; rfl
        case c3 => unfold maxLen; omega
        case c4 => omega
        case c5 => have := hbr.size; simp; omega
        intro v2 w2 hown2 hg2 _
        have hrow : ∀ g, u5.ownBlock = some g → w.heap.size ≤ g := fun g hg => (hown.lt g hg).1
        have hb2 : Below w.heap.size w w2 := (hbr.alloc hbr.size _).grown hg2 (by have := hbr.size; simp; omega) hrow
        have HO := Lib.hid (show w2.ownsRow w.heap.size 44 1 v2 (out ++ [(c + y) % 1000000000]).length (limV (out ++ [(c + y) % 1000000000])) by
          have e : limV (out ++ [(c + y) % 1000000000]) = limV out ++ [.int .u64 (((c : Int) + (y : Int)) % 1000000000)] := by rw [limV_append]; simp [limV]
          rw [e, List.length_append, hlen]
          exact hown2)
        clear hown2 hg2 hrow hown
        go_wp2
        go_roundw
        case rel => exact ⟨k + 1, (c + y) / 1000000000, _, by go_num, by simp, HN.out, HO.out, hb2⟩
        case measure => simp [intOf]; omega
      · have hxd : a.getD k 0 = 0 := by simp [List.getD, show a.length ≤ k by omega]
        rw [hxd, Nat.add_zero] at HN
        clear hxd hx
        have hyd : b.getD k 0 = 0 := by simp [List.getD, show b.length ≤ k by omega]
        rw [hyd, Nat.add_zero] at HN
        clear hyd hy
        have hc0 : 0 < c := by omega
        clear hgo
        go_wp2_with (at_builtin; refine wpList_append_own _ rfl _ _ 42 rfl w.heap.size 44 i0 (.int .u64 0) 1 8 Tryz.underlying42 hi hz0 hz1 hz2 rfl (by decide) _ _ _ rfl (hown.alloc _) ⟨wr.heap.size, 0, none⟩ 1 1 [.int .u64 (((c : Int)) % 1000000000)] rfl rfl ?c1 ?c2 ?c3 ?c4 ?c5 ?_)
        case c1 => intro j u hj; cases j <;> simp_all [go_sem]
        case c2 => intro u hu; simp only [List.mem_singleton] at hu; subst hu; rfl
        case c3 => unfold maxLen; omega
        case c4 => omega
        case c5 => have := hbr.size; simp; omega
        intro v2 w2 hown2 hg2 _
        have hrow : ∀ g, u5.ownBlock = some g → w.heap.size ≤ g := fun g hg => (hown.lt g hg).1
        have hb2 : Below w.heap.size w w2 := (hbr.alloc hbr.size _).grown hg2 (by have := hbr.size; simp; omega) hrow
        have HO := Lib.hid (show w2.ownsRow w.heap.size 44 1 v2 (out ++ [(c) % 1000000000]).length (limV (out ++ [(c) % 1000000000])) by
          have e : limV (out ++ [(c) % 1000000000]) = limV out ++ [.int .u64 (((c : Int)) % 1000000000)] := by rw [limV_append]; simp [limV]
          rw [e, List.length_append, hlen]
          exact hown2)
        clear hown2 hg2 hrow hown
        go_wp2
        go_roundw
        case rel => exact ⟨k + 1, (c) / 1000000000, _, by go_num, by simp, HN.out, HO.out, hb2⟩
        case measure => simp [intOf]; omega
    · have HO := Lib.hid hown
      have HL := Lib.hid hlen
      clear hown hlen
      have hc0 : c ≤ 0 := by omega
      have hg1 : a.length ≤ k := by omega
      have hg2 : b.length ≤ k := by omega
      clear hgo hc1
      have HV := Lib.hid (show val out = val a + val b by
        have := hinv.2.2.1
        rw [List.take_of_length_le (show a.length ≤ k by omega), List.take_of_length_le (show b.length ≤ k by omega), show c = 0 by omega] at this
        simpa using this)
      have HS := Lib.hid hinv.2.1
      clear hinv
      obtain ⟨A, cp, rfl, hr, hc1', hc2'⟩ := own_form HO.out
      have HC2 := Lib.hid hc2'
      clear hc2'
      go_wp2_with fail
      refine (trim_any _ _ _ _ _ hc1' HC2.out hr).mono ?_
      rintro e w2 ⟨⟨m, hm, rfl, ht, hv⟩, rfl⟩
      have HR := Lib.hid (show Rep wr (max a.length b.length + 1) (.slice A m cp) (val a + val b) from rep_trim hr hc1' HC2.out hm HS.out ht (hv.trans HV.out) (by have := HL.out; omega))
      clear ht hv
      go_wp2
      go_ret
      exact ⟨⟨_, rfl, HR.out⟩, hbr⟩
end Go.Proofs.YtmpelpmhbadjoaaGreatDoor
