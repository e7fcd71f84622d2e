/- The reference's naturals: what they are in memory; trim, small. -/
import Derived.Test.YtmpelpmhbadjoaaGreatDoorNat4
namespace Go.Proofs.YtmpelpmhbadjoaaGreatDoor
open Go.RowKit Limb

def limI (l : List Nat) : List Value := l.map fun (x : Nat) => Value.int .i64 (x : Int)
theorem limI_len (l : List Nat) : (limI l).length = l.length := by simp [limI]
theorem limI_append (l r : List Nat) : limI (l ++ r) = limI l ++ limI r := by simp [limI]
theorem limI_take (l : List Nat) (m : Nat) : (limI l).take m = limI (l.take m) := by simp [limI, List.map_take]
theorem limI_at {l : List Nat} {k : Nat} (h : k < l.length) : (limI l)[k]? = some (.int .i64 (l[k] : Int)) := by simp [limI, h]
theorem limI_get (l : List Nat) (k : Nat) (u : Value) (h : (limI l)[k]? = some u) : ∃ h : k < l.length, u = .int .i64 (l[k] : Int) := by
  have hl : k < l.length := by
    have := (List.getElem?_eq_some_iff.1 h).1
    rwa [limI_len] at this
  rw [limI_at hl] at h
  exact ⟨hl, by injection h with h; exact h.symm⟩
/-- The cell of a limb. -/
theorem Reads.limbI {w : World} {B' n : Nat} {A : Option Addr} {l : List Nat} (h : Reads w B' 1 A n (limI l)) {k : Nat} (hk : k < l.length) : ∃ ad, A = some ad ∧ w.cell? (ad.add k) = some (.int .i64 (l[k] : Int)) := by
  have hn : n = l.length := by have := h.1; rw [limI_len] at this; omega
  obtain ⟨ad, u, e, _, hu, hc⟩ := h.at_ (show k < n by omega)
  rw [limI_at hk] at hu
  injection hu with hu
  exact ⟨ad, e, by rw [hc, hu]⟩
/-- A natural in memory. -/
structure RepI (w : World) (L : Nat) (v : Value) (x : Nat) : Prop where
  ex : ∃ (l : List Nat) (A : Option Addr) (c : Nat), v = .slice A l.length c ∧ Small l ∧ Top l ∧ val l = x ∧ Reads w w.heap.size 1 A l.length (limI l) ∧ l.length ≤ c ∧ c ≤ maxLen ∧ l.length ≤ L
theorem RepI.mono {w : World} {L L' : Nat} {v : Value} {x : Nat} (h : RepI w L v x) (hL : L ≤ L') : RepI w L' v x := by
  obtain ⟨l, A, c, h1, h2, h3, h4, h5, h6, h7, h8⟩ := h.ex
  exact ⟨l, A, c, h1, h2, h3, h4, h5, h6, h7, by omega⟩
theorem RepI.below {w w' : World} {L : Nat} {v : Value} {x : Nat} (h : RepI w L v x) (hb : Below w.heap.size w w') : RepI w' L v x := by
  obtain ⟨l, A, c, h1, h2, h3, h4, h5, h6⟩ := h.ex
  exact ⟨l, A, c, h1, h2, h3, h4, (h5.below hb).more hb.size, h6⟩

theorem rtrim_any (A : Option Addr) (l : List Nat) (c B' : Nat) (w : World) (hc : l.length ≤ c) (hm : c ≤ maxLen) (hx : Reads w B' 1 A l.length (limI l)) :
    Calls Tryz.prog 61 #[.slice A l.length c] w fun e w' => (∃ m, m ≤ l.length ∧ e = .returned (.slice A m c) ∧ Top (l.take m) ∧ val (l.take m) = val l) ∧ w = w' := by
  unfold maxLen at hm
  go_enter Tryz.func61, Tryz.ntmps61
  go_wp2
  go_loop [3] (fun s => ∃ m : Nat, m ≤ l.length ∧ s = .int .i64 (m : Int) ∧ val (l.take m) = val l) (fun s => (intOf s).toNat)
  case atStart => exact ⟨l.length, Nat.le_refl _, rfl, by rw [List.take_length]⟩
  case round =>
    obtain ⟨m, hml, rfl, hv⟩ := hrel
    have HV := Lib.hid hv
    clear hv
    by_cases h0 : 0 < m
    · have hk : m - 1 < l.length := by omega
      obtain ⟨ad, rfl, hcell⟩ := hx.limbI hk
      have em : ((m : Int) - 1).toNat = m - 1 := by omega
      by_cases hz : l[m - 1] = 0
      · have hz2 : val (l.take (m - 1)) = val l := by
          have := val_take_succ hk
          rw [show m - 1 + 1 = m from by omega, hz] at this
          rw [← HV.out, this]
          omega
        have HZ := Lib.hid hz2
        rw [hz] at hcell
        clear hz hz2
        obtain ⟨i, rfl⟩ : ∃ i, m = i + 1 := ⟨m - 1, by omega⟩
        have ei : ((i + 1 : Nat) : Int) - 1 = (i : Int) := by omega
        simp only [Nat.add_sub_cancel] at hcell HZ hk
        clear em
        go_wp2
        go_round
        case rel => exact ⟨i, by omega, by go_num, HZ.out⟩
        case measure => simp [intOf]
      · have hz1 : ((l[m - 1] : Int) == 0) = false := by simp; omega
        have HT : Hid (Top (l.take m)) := by
          intro hne
          rw [List.getLast_eq_getElem]
          simp only [List.getElem_take]
          have e : (l.take m).length - 1 = m - 1 := by simp; omega
          simp only [e]
          exact hz
        clear hz
        obtain ⟨i, rfl⟩ : ∃ i, m = i + 1 := ⟨m - 1, by omega⟩
        have ei : ((i + 1 : Nat) : Int) - 1 = (i : Int) := by omega
        simp only [Nat.add_sub_cancel] at hcell hk hz1
        clear em
        go_wp2
        go_ret
        exact ⟨⟨i + 1, hml, rfl, HT.out, HV.out⟩, rfl⟩
    · obtain rfl : m = 0 := by omega
      go_wp2
      go_ret
      exact ⟨⟨0, hml, rfl, fun h => absurd rfl h, HV.out⟩, rfl⟩

theorem infoI : (Tryz.prog.info? 3).map (fun i => (i.zero, i.size, i.bytes)) = some (some (.int .i64 0), 1, 8) := by kernel_rfl
theorem own_formI {w : World} {B' : Nat} {e : TypeId} {v : Value} {l : List Nat} (h : w.ownsRow B' e 1 v l.length (limI l)) : ∃ A c, v = .slice A l.length c ∧ Reads w w.heap.size 1 A l.length (limI l) ∧ l.length ≤ c ∧ c ≤ maxLen := by
  obtain ⟨h1, h2⟩ := h
  rcases h2 with ⟨rfl, e0⟩ | ⟨g, cap, cur, rfl, e1, e2, e3, e4, e5⟩
  · have hl : l = [] := List.eq_nil_of_length_eq_zero e0
    subst hl
    exact ⟨none, 0, rfl, Reads.none_, Nat.le_refl _, Nat.zero_le _⟩
  · exact ⟨_, cap, rfl, Reads.of_own (c := cap) ⟨h1, .inr ⟨g, cap, cur, rfl, e1, e2, e3, e4, e5⟩⟩, e3, e4⟩
theorem reads_takeI {w : World} {B' : Nat} {A : Option Addr} {l : List Nat} {m : Nat} (h : Reads w B' 1 A l.length (limI l)) (hm : m ≤ l.length) : Reads w B' 1 A (l.take m).length (limI (l.take m)) := by
  have hl : (l.take m).length = m := by simp; omega
  rw [hl]
  refine ⟨by rw [limI_len, hl]; omega, fun h0 => ?_⟩
  obtain ⟨ad, e, hb, hc⟩ := h.2 (by omega)
  refine ⟨ad, e, hb, fun j u hj => hc j u ?_⟩
  rw [← limI_take, List.getElem?_take] at hj
  split at hj
  · exact hj
  · cases hj
theorem repI_trim {w : World} {A : Option Addr} {L c x m : Nat} {l : List Nat} (h : Reads w w.heap.size 1 A l.length (limI l)) (hc : l.length ≤ c) (hx : c ≤ maxLen) (hm : m ≤ l.length) (hs : Small l) (ht : Top (l.take m)) (hv : val (l.take m) = x) (hL : m ≤ L) : RepI w L (.slice A m c) x := by
  have hl : (l.take m).length = m := by simp; omega
  refine ⟨l.take m, A, c, by rw [hl], hs.take m, ht, hv, reads_takeI h hm, by omega, hx, by omega⟩
theorem repI_own {w : World} {B' : Nat} {e : TypeId} {v : Value} {l : List Nat} {L x : Nat} (h : w.ownsRow B' e 1 v l.length (limI l)) (hs : Small l) (ht : Top l) (hv : val l = x) (hL : l.length ≤ L) : RepI w L v x := by
  obtain ⟨A, c, rfl, hr, h1, h2⟩ := own_formI h
  exact ⟨l, A, c, rfl, hs, ht, hv, hr, h1, h2, hL⟩

set_option maxHeartbeats 400000 in
theorem rsmall_any (n : Nat) (w : World) (hn : n ≤ 9223372036854775807) :
    Calls Tryz.prog 54 #[.int .i64 n] w fun e w' => (∃ v, e = .returned v ∧ RepI w' 3 v n) ∧ Below w.heap.size w w' := by
  have hi0 : SmallInv n [] n := ⟨by simp [val], Small.nil, fun _ h => absurd rfl h, .inl ⟨rfl, by omega⟩⟩
  obtain ⟨i0, hi, hz0, hz1, hz2⟩ := info_parts infoI
  go_enter Tryz.func54, Tryz.ntmps54
  go_wp2
  go_loopw [0, 3] (fun s v wr => ∃ (m : Nat) (out : List Nat), s = .int .i64 (m : Int) ∧ m ≤ n ∧ SmallInv n out m ∧ wr.ownsRow w.heap.size 3 1 v out.length (limI out) ∧ Below w.heap.size w wr) (fun s _ _ => (intOf s).toNat)
  case atStart => exact ⟨n, [], rfl, Nat.le_refl _, hi0, World.ownsRow_nil _ _ _ _, Below.refl _ _⟩
  case round =>
    obtain ⟨m, out, rfl, hmn, hinv, hown, hb⟩ := hrel
    clear hi0
    by_cases h0 : 0 < m
    · have hlen := hinv.len h0
      have hm2 : (m : Int) ≤ 9223372036854775807 := by omega
      have HN := Lib.hid (hinv.next h0)
      have HMN := Lib.hid (show m / 1000000000 ≤ n from Nat.le_trans (Nat.div_le_self _ _) hmn)
      clear hinv hmn
      go_wp2_with (at_builtin; refine wpList_append_own _ rfl _ _ 50 rfl w.heap.size 3 i0 (.int .i64 0) 1 8 Tryz.underlying50 hi hz0 hz1 hz2 rfl (by decide) _ _ _ rfl (hown.alloc _) ⟨wr.heap.size, 0, none⟩ 1 1 [.int .i64 ((m % 1000000000 : Nat) : Int)] rfl rfl ?c1 ?c2 ?c3 ?c4 ?c5 ?_)
      case c1 => intro j u hj; cases j <;> simp_all [go_sem]
      case c2 => intro u hu; simp only [List.mem_singleton] at hu; subst hu; rfl
      case c3 => unfold maxLen; omega
      case c4 => omega
      case c5 => have := hb.size; simp; omega
      intro v2 w2 hown2 hg2 _
      have hrow : ∀ g, u3.ownBlock = some g → w.heap.size ≤ g := fun g hg => (hown.lt g hg).1
      have hb2 : Below w.heap.size w w2 := (hb.alloc hb.size _).grown hg2 (by have := hb.size; simp; omega) hrow
      have HO := Lib.hid (show w2.ownsRow w.heap.size 3 1 v2 (out ++ [m % 1000000000]).length (limI (out ++ [m % 1000000000])) by rw [limI_append, List.length_append]; exact hown2)
      clear hown2 hg2 hrow hown
      go_wp2
      go_roundw
      case rel => exact ⟨m / 1000000000, _, by go_num, HMN.out, HN.out, HO.out, hb2⟩
      case measure => simp [intOf]; omega
    · obtain rfl : m = 0 := by omega
      have HO := Lib.hid hown
      clear hown
      go_wp2
      go_ret
      obtain ⟨h1, h2, h3, h4⟩ := hinv
      exact ⟨⟨_, rfl, repI_own HO.out h2 (h3 rfl) (by simpa using h1.symm) (by omega)⟩, hb⟩
end Go.Proofs.YtmpelpmhbadjoaaGreatDoor
