/- The reference's naturals: plus, minus, order. -/
import Derived.Test.YtmpelpmhbadjoaaGreatDoorRN1
namespace Go.Proofs.YtmpelpmhbadjoaaGreatDoor
open Go.RowKit Limb

set_option maxRecDepth 100000 in
set_option maxHeartbeats 2000000 in
theorem rplusL_any (A1 A2 : Option Addr) (a b : List Nat) (c1 c2 : Nat) (w : World) (ha : Small a) (hb : Small b) (hla : a.length ≤ 1000000) (hlb : b.length ≤ 1000000) (hra : Reads w w.heap.size 1 A1 a.length (limI a)) (hrb : Reads w w.heap.size 1 A2 b.length (limI b)) :
    Calls Tryz.prog 39 #[.slice A1 a.length c1, .slice A2 b.length c2] w fun e w' => (∃ v, e = .returned v ∧ RepI w' (max a.length b.length + 1) v (val a + val b)) ∧ Below w.heap.size w w' := by
  obtain ⟨i0, hi, hz0, hz1, hz2⟩ := info_parts infoI
  go_enter Tryz.func39, Tryz.ntmps39
  go_wp2
  go_loopw [7, 6, 5, 8] (fun i cc v _ wr => ∃ (k c : Nat) (out : List Nat), i = .int .i64 (k : Int) ∧ cc = .int .i64 (c : Int) ∧ PlusInv a b out k c ∧ wr.ownsRow w.heap.size 3 1 v out.length (limI out) ∧ Below w.heap.size w wr) (fun i _ _ _ _ => max a.length b.length + 1 - (intOf i).toNat)
  case atStart => exact ⟨0, 0, [], rfl, rfl, ⟨rfl, Small.nil, by simp [val], by omega, by omega⟩, World.ownsRow_nil _ _ _ _, Below.refl _ _⟩
  case round =>
    obtain ⟨k, c, out, rfl, rfl, hinv, hown, hbr⟩ := hrel
    have hk0 : k ≤ max a.length b.length + 1 := by have := hinv.2.2.2.2; omega
    have hc1 : c ≤ 1 := hinv.2.2.2.1
    have hlen := hinv.1
    by_cases hgo : k < a.length ∨ k < b.length ∨ 0 < c
    · have HN := Lib.hid (hinv.next (s := c + a.getD k 0 + b.getD k 0) ha hb rfl hgo)
      have hk1 : k ≤ max a.length b.length := by have := hinv.2.2.2.2; omega
      have hx : a.getD k 0 < 1000000000 := getD_small ha k
      have hy : b.getD k 0 < 1000000000 := getD_small hb k
      clear hinv
      by_cases ka : k < a.length <;> by_cases kb : k < b.length
      · skip
        obtain ⟨hcad, rfl, hca⟩ := (hra.below hbr).limbI ka
        obtain ⟨x, xe⟩ : ∃ x, a[k] = x := ⟨_, rfl⟩
        have xd : a.getD k 0 = x := by rw [← xe]; simp [List.getD, ka]
        rw [xe] at hca
        rw [xd] at HN hx
        clear xe xd
        obtain ⟨hcbd, rfl, hcb⟩ := (hrb.below hbr).limbI kb
        obtain ⟨y, ye⟩ : ∃ x, b[k] = x := ⟨_, rfl⟩
        have yd : b.getD k 0 = y := by rw [← ye]; simp [List.getD, kb]
        rw [ye] at hcb
        rw [yd] at HN hy
        clear ye yd
        clear hgo
        by_cases hab : a.length < b.length
        · skip
          go_wp2_with (at_builtin; refine wpList_append_own _ rfl _ _ 50 rfl w.heap.size 3 i0 (.int .i64 0) 1 8 Tryz.underlying50 hi hz0 hz1 hz2 rfl (by decide) _ _ _ rfl (hown.alloc _) ⟨wr.heap.size, 0, none⟩ 1 1 [.int .i64 (((c : Int) + (x : Int) + (y : Int)) % 1000000000)] rfl rfl ?h1c1 ?h1c2 ?h1c3 ?h1c4 ?h1c5 ?_)
          case h1c1 => intro j u hj; cases j <;> simp_all [go_sem]
          case h1c2 => intro u hu; simp only [List.mem_singleton] at hu; subst hu; rfl
          case h1c3 => unfold maxLen; omega
          case h1c4 => omega
          case h1c5 => have := hbr.size; simp; omega
          intro v2 w2 hown2 hg2 _
          have hrow : ∀ g, u5.ownBlock = some g → w.heap.size ≤ g := fun g hg => (hown.lt g hg).1
          have hb2 : Below w.heap.size w w2 := (hbr.alloc hbr.size _).grown hg2 (by have := hbr.size; simp; omega) hrow
          have HO := Lib.hid (show w2.ownsRow w.heap.size 3 1 v2 (out ++ [(c + x + y) % 1000000000]).length (limI (out ++ [(c + x + y) % 1000000000])) by
            have e : limI (out ++ [(c + x + y) % 1000000000]) = limI out ++ [.int .i64 (((c : Int) + (x : Int) + (y : Int)) % 1000000000)] := by rw [limI_append]; simp [limI]
            rw [e, List.length_append, hlen]
            exact hown2)
          clear hown2 hg2 hrow hown
          go_wp2
          go_roundw
          case rel => exact ⟨k + 1, (c + x + y) / 1000000000, _, by go_num, by simp, HN.out, HO.out, hb2⟩
          case measure => simp [intOf]; omega
        · skip
          go_wp2_with (at_builtin; refine wpList_append_own _ rfl _ _ 50 rfl w.heap.size 3 i0 (.int .i64 0) 1 8 Tryz.underlying50 hi hz0 hz1 hz2 rfl (by decide) _ _ _ rfl (hown.alloc _) ⟨wr.heap.size, 0, none⟩ 1 1 [.int .i64 (((c : Int) + (x : Int) + (y : Int)) % 1000000000)] rfl rfl ?h1c1 ?h1c2 ?h1c3 ?h1c4 ?h1c5 ?_)
          case h1c1 => intro j u hj; cases j <;> simp_all [go_sem]
          case h1c2 => intro u hu; simp only [List.mem_singleton] at hu; subst hu; rfl
          case h1c3 => unfold maxLen; omega
          case h1c4 => omega
          case h1c5 => have := hbr.size; simp; omega
          intro v2 w2 hown2 hg2 _
          have hrow : ∀ g, u5.ownBlock = some g → w.heap.size ≤ g := fun g hg => (hown.lt g hg).1
          have hb2 : Below w.heap.size w w2 := (hbr.alloc hbr.size _).grown hg2 (by have := hbr.size; simp; omega) hrow
          have HO := Lib.hid (show w2.ownsRow w.heap.size 3 1 v2 (out ++ [(c + x + y) % 1000000000]).length (limI (out ++ [(c + x + y) % 1000000000])) by
            have e : limI (out ++ [(c + x + y) % 1000000000]) = limI out ++ [.int .i64 (((c : Int) + (x : Int) + (y : Int)) % 1000000000)] := by rw [limI_append]; simp [limI]
            rw [e, List.length_append, hlen]
            exact hown2)
          clear hown2 hg2 hrow hown
          go_wp2
          go_roundw
          case rel => exact ⟨k + 1, (c + x + y) / 1000000000, _, by go_num, by simp, HN.out, HO.out, hb2⟩
          case measure => simp [intOf]; omega
      · skip
        obtain ⟨hcad, rfl, hca⟩ := (hra.below hbr).limbI ka
        obtain ⟨x, xe⟩ : ∃ x, a[k] = x := ⟨_, rfl⟩
        have xd : a.getD k 0 = x := by rw [← xe]; simp [List.getD, ka]
        rw [xe] at hca
        rw [xd] at HN hx
        clear xe xd
        have hyd : b.getD k 0 = 0 := by simp [List.getD, show b.length ≤ k by omega]
        rw [hyd, Nat.add_zero] at HN
        clear hyd hy
        clear hgo
        have hab : b.length < a.length := by omega
        have hab2 : ¬ a.length < b.length := by omega
        go_wp2_with (at_builtin; refine wpList_append_own _ rfl _ _ 50 rfl w.heap.size 3 i0 (.int .i64 0) 1 8 Tryz.underlying50 hi hz0 hz1 hz2 rfl (by decide) _ _ _ rfl (hown.alloc _) ⟨wr.heap.size, 0, none⟩ 1 1 [.int .i64 (((c : Int) + (x : Int)) % 1000000000)] rfl rfl ?h2c1 ?h2c2 ?h2c3 ?h2c4 ?h2c5 ?_)
        case h2c1 => intro j u hj; cases j <;> simp_all [go_sem]
        case h2c2 => intro u hu; simp only [List.mem_singleton] at hu; subst hu; rfl
        case h2c3 => unfold maxLen; omega
        case h2c4 => omega
        case h2c5 => have := hbr.size; simp; omega
        intro v2 w2 hown2 hg2 _
        have hrow : ∀ g, u5.ownBlock = some g → w.heap.size ≤ g := fun g hg => (hown.lt g hg).1
        have hb2 : Below w.heap.size w w2 := (hbr.alloc hbr.size _).grown hg2 (by have := hbr.size; simp; omega) hrow
        have HO := Lib.hid (show w2.ownsRow w.heap.size 3 1 v2 (out ++ [(c + x) % 1000000000]).length (limI (out ++ [(c + x) % 1000000000])) by
          have e : limI (out ++ [(c + x) % 1000000000]) = limI out ++ [.int .i64 (((c : Int) + (x : Int)) % 1000000000)] := by rw [limI_append]; simp [limI]
          rw [e, List.length_append, hlen]
          exact hown2)
        clear hown2 hg2 hrow hown
        go_wp2
        go_roundw
        case rel => exact ⟨k + 1, (c + x) / 1000000000, _, by go_num, by simp, HN.out, HO.out, hb2⟩
        case measure => simp [intOf]; omega
      · skip
        have hxd : a.getD k 0 = 0 := by simp [List.getD, show a.length ≤ k by omega]
        rw [hxd, Nat.add_zero] at HN
        clear hxd hx
        obtain ⟨hcbd, rfl, hcb⟩ := (hrb.below hbr).limbI kb
        obtain ⟨y, ye⟩ : ∃ x, b[k] = x := ⟨_, rfl⟩
        have yd : b.getD k 0 = y := by rw [← ye]; simp [List.getD, kb]
        rw [ye] at hcb
        rw [yd] at HN hy
        clear ye yd
        clear hgo
        have hab : a.length < b.length := by omega
        go_wp2_with (at_builtin; refine wpList_append_own _ rfl _ _ 50 rfl w.heap.size 3 i0 (.int .i64 0) 1 8 Tryz.underlying50 hi hz0 hz1 hz2 rfl (by decide) _ _ _ rfl (hown.alloc _) ⟨wr.heap.size, 0, none⟩ 1 1 [.int .i64 (((c : Int) + (y : Int)) % 1000000000)] rfl rfl ?h3c1 ?h3c2 ?h3c3 ?h3c4 ?h3c5 ?_)
        case h3c1 => intro j u hj; cases j <;> simp_all [go_sem]
        case h3c2 => intro u hu; simp only [List.mem_singleton] at hu; subst hu; rfl
        case h3c3 => unfold maxLen; omega
        case h3c4 => omega
        case h3c5 => have := hbr.size; simp; omega
        intro v2 w2 hown2 hg2 _
        have hrow : ∀ g, u5.ownBlock = some g → w.heap.size ≤ g := fun g hg => (hown.lt g hg).1
        have hb2 : Below w.heap.size w w2 := (hbr.alloc hbr.size _).grown hg2 (by have := hbr.size; simp; omega) hrow
        have HO := Lib.hid (show w2.ownsRow w.heap.size 3 1 v2 (out ++ [(c + y) % 1000000000]).length (limI (out ++ [(c + y) % 1000000000])) by
          have e : limI (out ++ [(c + y) % 1000000000]) = limI out ++ [.int .i64 (((c : Int) + (y : Int)) % 1000000000)] := by rw [limI_append]; simp [limI]
          rw [e, List.length_append, hlen]
          exact hown2)
        clear hown2 hg2 hrow hown
        go_wp2
        go_roundw
        case rel => exact ⟨k + 1, (c + y) / 1000000000, _, by go_num, by simp, HN.out, HO.out, hb2⟩
        case measure => simp [intOf]; omega
      · skip
        have hxd : a.getD k 0 = 0 := by simp [List.getD, show a.length ≤ k by omega]
        rw [hxd, Nat.add_zero] at HN
        clear hxd hx
        have hyd : b.getD k 0 = 0 := by simp [List.getD, show b.length ≤ k by omega]
        rw [hyd, Nat.add_zero] at HN
        clear hyd hy
        have hc0 : 0 < c := by omega
        clear hgo
        by_cases hab : a.length < b.length
        · skip
          go_wp2_with (at_builtin; refine wpList_append_own _ rfl _ _ 50 rfl w.heap.size 3 i0 (.int .i64 0) 1 8 Tryz.underlying50 hi hz0 hz1 hz2 rfl (by decide) _ _ _ rfl (hown.alloc _) ⟨wr.heap.size, 0, none⟩ 1 1 [.int .i64 (((c : Int)) % 1000000000)] rfl rfl ?h4c1 ?h4c2 ?h4c3 ?h4c4 ?h4c5 ?_)
          case h4c1 => intro j u hj; cases j <;> simp_all [go_sem]
          case h4c2 => intro u hu; simp only [List.mem_singleton] at hu; subst hu; rfl
          case h4c3 => unfold maxLen; omega
          case h4c4 => omega
          case h4c5 => have := hbr.size; simp; omega
          intro v2 w2 hown2 hg2 _
          have hrow : ∀ g, u5.ownBlock = some g → w.heap.size ≤ g := fun g hg => (hown.lt g hg).1
          have hb2 : Below w.heap.size w w2 := (hbr.alloc hbr.size _).grown hg2 (by have := hbr.size; simp; omega) hrow
          have HO := Lib.hid (show w2.ownsRow w.heap.size 3 1 v2 (out ++ [(c) % 1000000000]).length (limI (out ++ [(c) % 1000000000])) by
            have e : limI (out ++ [(c) % 1000000000]) = limI out ++ [.int .i64 (((c : Int)) % 1000000000)] := by rw [limI_append]; simp [limI]
            rw [e, List.length_append, hlen]
            exact hown2)
          clear hown2 hg2 hrow hown
          go_wp2
          go_roundw
          case rel => exact ⟨k + 1, (c) / 1000000000, _, by go_num, by simp, HN.out, HO.out, hb2⟩
          case measure => simp [intOf]; omega
        · skip
          go_wp2_with (at_builtin; refine wpList_append_own _ rfl _ _ 50 rfl w.heap.size 3 i0 (.int .i64 0) 1 8 Tryz.underlying50 hi hz0 hz1 hz2 rfl (by decide) _ _ _ rfl (hown.alloc _) ⟨wr.heap.size, 0, none⟩ 1 1 [.int .i64 (((c : Int)) % 1000000000)] rfl rfl ?h4c1 ?h4c2 ?h4c3 ?h4c4 ?h4c5 ?_)
          case h4c1 => intro j u hj; cases j <;> simp_all [go_sem]
          case h4c2 => intro u hu; simp only [List.mem_singleton] at hu; subst hu; rfl
          case h4c3 => unfold maxLen; omega
          case h4c4 => omega
          case h4c5 => have := hbr.size; simp; omega
          intro v2 w2 hown2 hg2 _
          have hrow : ∀ g, u5.ownBlock = some g → w.heap.size ≤ g := fun g hg => (hown.lt g hg).1
          have hb2 : Below w.heap.size w w2 := (hbr.alloc hbr.size _).grown hg2 (by have := hbr.size; simp; omega) hrow
          have HO := Lib.hid (show w2.ownsRow w.heap.size 3 1 v2 (out ++ [(c) % 1000000000]).length (limI (out ++ [(c) % 1000000000])) by
            have e : limI (out ++ [(c) % 1000000000]) = limI out ++ [.int .i64 (((c : Int)) % 1000000000)] := by rw [limI_append]; simp [limI]
            rw [e, List.length_append, hlen]
            exact hown2)
          clear hown2 hg2 hrow hown
          go_wp2
          go_roundw
          case rel => exact ⟨k + 1, (c) / 1000000000, _, by go_num, by simp, HN.out, HO.out, hb2⟩
          case measure => simp [intOf]; omega
    · have HO := Lib.hid hown
      have HL := Lib.hid hlen
      clear hown hlen
      have hc0 : c ≤ 0 := by omega
      have hg1 : a.length ≤ k := by omega
      have hg2 : b.length ≤ k := by omega
      clear hgo hc1
      have HV := Lib.hid (show val out = val a + val b by
        have := hinv.2.2.1
        rw [List.take_of_length_le (show a.length ≤ k by omega), List.take_of_length_le (show b.length ≤ k by omega), show c = 0 by omega] at this
        simpa using this)
      have HS := Lib.hid hinv.2.1
      clear hinv
      obtain ⟨A, cp, rfl, hr, hc1', hc2'⟩ := own_formI HO.out
      have HC2 := Lib.hid hc2'
      clear hc2'
      by_cases hab : a.length < b.length
      all_goals
        go_wp2_with fail
        refine (rtrim_any _ _ _ _ _ hc1' HC2.out hr).mono ?_
        rintro e w2 ⟨⟨m, hm, rfl, ht, hv⟩, rfl⟩
        have HR := Lib.hid (show RepI wr (max a.length b.length + 1) (.slice A m cp) (val a + val b) from repI_trim hr hc1' HC2.out hm HS.out ht (hv.trans HV.out) (by have := HL.out; omega))
        clear ht hv
        go_wp2
        go_ret
        exact ⟨⟨_, rfl, HR.out⟩, hbr⟩

def MinI (a b out : List Nat) (k c : Nat) : Prop := out.length = k ∧ Small out ∧ val out + val (b.take k) = val (a.take k) + 1000000000 ^ k * c ∧ c ≤ 1
theorem MinI.next {a b out : List Nat} {k c c' l : Nat} (h : MinI a b out k c) (hc : c' ≤ 1) (hl : l < 1000000000) (hs : a.getD k 0 + 1000000000 * c' = l + (b.getD k 0 + c)) : MinI a b (out ++ [l]) (k + 1) c' := by
  obtain ⟨h1, h2, h3, h4⟩ := h
  refine ⟨by simp [h1], h2.snoc hl, ?_, hc⟩
  rw [val_snoc, h1, val_take_getD, val_take_getD, pow_succ']
  exact minus_step c' h3 hs
theorem MinI.done {a b out : List Nat} {k c : Nat} (h : MinI a b out k c) (ha : a.length ≤ k) (hb : b.length ≤ k) (hs : Small out) (hle : val b ≤ val a) (_hk : k = a.length) : val out = val a - val b := by
  obtain ⟨h1, h2, h3, h4⟩ := h
  rw [val_take_all ha, val_take_all hb] at h3
  have hl := val_lt hs
  rw [h1] at hl
  have hc : c = 0 := by
    rcases Nat.eq_zero_or_pos c with h | h
    · exact h
    · have e : c = 1 := by omega
      subst e
      omega
  subst hc
  omega
set_option maxRecDepth 100000 in
set_option maxHeartbeats 2000000 in
theorem rminusL_any (A1 A2 : Option Addr) (a b : List Nat) (c1 c2 : Nat) (w : World) (ha : Small a) (hb : Small b) (hla : a.length ≤ 1000000) (hlb : b.length ≤ a.length) (hle : val b ≤ val a) (hra : Reads w w.heap.size 1 A1 a.length (limI a)) (hrb : Reads w w.heap.size 1 A2 b.length (limI b)) :
    Calls Tryz.prog 41 #[.slice A1 a.length c1, .slice A2 b.length c2] w fun e w' => (∃ v, e = .returned v ∧ RepI w' a.length v (val a - val b)) ∧ Below w.heap.size w w' := by
  have HLE := Lib.hid hle
  clear hle
  obtain ⟨i0, hi, hz0, hz1, hz2⟩ := info_parts infoI
  go_enter Tryz.func41, Tryz.ntmps41
  go_wp2
  go_loopw [11, 6, 5, 7, 8] (fun i cc v _ _ wr => ∃ (k c : Nat) (out : List Nat), k ≤ a.length ∧ i = .int .i64 (k : Int) ∧ cc = .int .i64 (c : Int) ∧ MinI a b out k c ∧ wr.ownsRow w.heap.size 3 1 v out.length (limI out) ∧ Below w.heap.size w wr) (fun i _ _ _ _ _ => a.length - (intOf i).toNat)
  case atStart => exact ⟨0, 0, [], Nat.zero_le _, rfl, rfl, ⟨rfl, Small.nil, by simp [val], by omega⟩, World.ownsRow_nil _ _ _ _, Below.refl _ _⟩
  case round =>
    obtain ⟨k, c, out, hka, rfl, rfl, hinv, hown, hbr⟩ := hrel
    have hc1 : c ≤ 1 := hinv.2.2.2
    have hlen := hinv.1
    have HI := Lib.hid hinv
    clear hinv
    by_cases ka : k < a.length
    · have hx : a.getD k 0 < 1000000000 := getD_small ha k
      have hy : b.getD k 0 < 1000000000 := getD_small hb k
      obtain ⟨hcad, rfl, hca⟩ := (hra.below hbr).limbI ka
      obtain ⟨x, xe⟩ : ∃ x, a[k] = x := ⟨_, rfl⟩
      have xd : a.getD k 0 = x := by rw [← xe]; simp [List.getD, ka]
      rw [xe] at hca
      rw [xd] at hx
      have HXD := Lib.hid xd
      clear xe xd
      by_cases kb : k < b.length
      · skip
        obtain ⟨hcbd, rfl, hcb⟩ := (hrb.below hbr).limbI kb
        obtain ⟨y, ye⟩ : ∃ x, b[k] = x := ⟨_, rfl⟩
        have yd : b.getD k 0 = y := by rw [← ye]; simp [List.getD, kb]
        rw [ye] at hcb
        rw [yd] at hy
        have HYD := Lib.hid yd
        clear ye yd
        by_cases hneg : (x : Int) - (c : Int) - (y : Int) < 0
        · obtain ⟨l, hl⟩ : ∃ l : Nat, l = (x + 1000000000 - c - y) := ⟨_, rfl⟩
          have hlv : (x : Int) - (c : Int) - (y : Int) + 1000000000 = (l : Int) := by omega
          have HN := Lib.hid (HI.out.next (c' := 1) (l := l) (by omega) (by omega) (by rw [HXD.out, HYD.out]; omega))
          have HLV := Lib.hid hlv
          clear hl HI
          go_wp2_with (at_builtin; refine wpList_append_own _ rfl _ _ 50 rfl w.heap.size 3 i0 (.int .i64 0) 1 8 Tryz.underlying50 hi hz0 hz1 hz2 rfl (by decide) _ _ _ rfl (hown.alloc _) ⟨wr.heap.size, 0, none⟩ 1 1 [.int .i64 ((l : Int))] rfl rfl ?h5c1 ?h5c2 ?h5c3 ?h5c4 ?h5c5 ?_)
          case h5c1 => intro j u hj; cases j <;> simp_all [go_sem]
          case h5c2 => intro u hu; simp only [List.mem_singleton] at hu; subst hu; rfl
          case h5c3 => unfold maxLen; omega
          case h5c4 => omega
          case h5c5 => have := hbr.size; simp; omega
          intro v2 w2 hown2 hg2 _
          have hrow : ∀ g, u5.ownBlock = some g → w.heap.size ≤ g := fun g hg => (hown.lt g hg).1
          have hb2 : Below w.heap.size w w2 := (hbr.alloc hbr.size _).grown hg2 (by have := hbr.size; simp; omega) hrow
          have HO := Lib.hid (show w2.ownsRow w.heap.size 3 1 v2 (out ++ [l]).length (limI (out ++ [l])) by
            have e : limI (out ++ [l]) = limI out ++ [.int .i64 ((l : Int))] := by rw [limI_append]; simp [limI]
            rw [e, List.length_append, hlen]
            exact hown2)
          clear hown2 hg2 hrow hown
          go_wp2
          go_roundw
          case rel => exact ⟨k + 1, 1, _, by omega, by go_num, rfl, HN.out, HO.out, hb2⟩
          case measure => simp [intOf]; omega
        · obtain ⟨l, hl⟩ : ∃ l : Nat, l = (x - c - y) := ⟨_, rfl⟩
          have hlv : (x : Int) - (c : Int) - (y : Int) = (l : Int) := by omega
          have HN := Lib.hid (HI.out.next (c' := 0) (l := l) (by omega) (by omega) (by rw [HXD.out, HYD.out]; omega))
          have HLV := Lib.hid hlv
          clear hl HI
          go_wp2_with (at_builtin; refine wpList_append_own _ rfl _ _ 50 rfl w.heap.size 3 i0 (.int .i64 0) 1 8 Tryz.underlying50 hi hz0 hz1 hz2 rfl (by decide) _ _ _ rfl (hown.alloc _) ⟨wr.heap.size, 0, none⟩ 1 1 [.int .i64 ((l : Int))] rfl rfl ?h6c1 ?h6c2 ?h6c3 ?h6c4 ?h6c5 ?_)
          case h6c2 => rfl
          case h6c3 => unfold maxLen; omega
          case h6c4 => omega
          case h6c5 => have := hbr.size; simp; omega
          intro v2 w2 hown2 hg2 _
          have hrow : ∀ g, u5.ownBlock = some g → w.heap.size ≤ g := fun g hg => (hown.lt g hg).1
          have hb2 : Below w.heap.size w w2 := (hbr.alloc hbr.size _).grown hg2 (by have := hbr.size; simp; omega) hrow
          have HO := Lib.hid (show w2.ownsRow w.heap.size 3 1 v2 (out ++ [l]).length (limI (out ++ [l])) by
            have e : limI (out ++ [l]) = limI out ++ [.int .i64 ((l : Int))] := by rw [limI_append]; simp [limI]
            rw [e, List.length_append, hlen]
            exact hown2)
          clear hown2 hg2 hrow hown
          go_wp2
          go_roundw
          case rel => exact ⟨k + 1, 0, _, by omega, by go_num, rfl, HN.out, HO.out, hb2⟩
          case measure => simp [intOf]; omega
      · skip
        have HYD := Lib.hid (show b.getD k 0 = 0 by simp [List.getD, show b.length ≤ k by omega])
        clear hy
        by_cases hneg : (x : Int) - (c : Int) < 0
        · obtain ⟨l, hl⟩ : ∃ l : Nat, l = (x + 1000000000 - c - 0) := ⟨_, rfl⟩
          have hlv : (x : Int) - (c : Int) + 1000000000 = (l : Int) := by omega
          have HN := Lib.hid (HI.out.next (c' := 1) (l := l) (by omega) (by omega) (by rw [HXD.out, HYD.out]; omega))
          have HLV := Lib.hid hlv
          clear hl HI
          go_wp2_with (at_builtin; refine wpList_append_own _ rfl _ _ 50 rfl w.heap.size 3 i0 (.int .i64 0) 1 8 Tryz.underlying50 hi hz0 hz1 hz2 rfl (by decide) _ _ _ rfl (hown.alloc _) ⟨wr.heap.size, 0, none⟩ 1 1 [.int .i64 ((l : Int))] rfl rfl ?h7c1 ?h7c2 ?h7c3 ?h7c4 ?h7c5 ?_)
          case h7c1 => intro j u hj; cases j <;> simp_all [go_sem]
          case h7c2 => intro u hu; simp only [List.mem_singleton] at hu; subst hu; rfl
          case h7c3 => unfold maxLen; omega
          case h7c4 => omega
          case h7c5 => have := hbr.size; simp; omega
          intro v2 w2 hown2 hg2 _
          have hrow : ∀ g, u5.ownBlock = some g → w.heap.size ≤ g := fun g hg => (hown.lt g hg).1
          have hb2 : Below w.heap.size w w2 := (hbr.alloc hbr.size _).grown hg2 (by have := hbr.size; simp; omega) hrow
          have HO := Lib.hid (show w2.ownsRow w.heap.size 3 1 v2 (out ++ [l]).length (limI (out ++ [l])) by
            have e : limI (out ++ [l]) = limI out ++ [.int .i64 ((l : Int))] := by rw [limI_append]; simp [limI]
            rw [e, List.length_append, hlen]
            exact hown2)
          clear hown2 hg2 hrow hown
          go_wp2
          go_roundw
          case rel => exact ⟨k + 1, 1, _, by omega, by go_num, rfl, HN.out, HO.out, hb2⟩
          case measure => simp [intOf]; omega
        · obtain ⟨l, hl⟩ : ∃ l : Nat, l = (x - c - 0) := ⟨_, rfl⟩
          have hlv : (x : Int) - (c : Int) = (l : Int) := by omega
          have HN := Lib.hid (HI.out.next (c' := 0) (l := l) (by omega) (by omega) (by rw [HXD.out, HYD.out]; omega))
          have HLV := Lib.hid hlv
          clear hl HI
          go_wp2_with (at_builtin; refine wpList_append_own _ rfl _ _ 50 rfl w.heap.size 3 i0 (.int .i64 0) 1 8 Tryz.underlying50 hi hz0 hz1 hz2 rfl (by decide) _ _ _ rfl (hown.alloc _) ⟨wr.heap.size, 0, none⟩ 1 1 [.int .i64 ((l : Int))] rfl rfl ?h8c1 ?h8c2 ?h8c3 ?h8c4 ?h8c5 ?_)
          case h8c2 => rfl
          case h8c3 => unfold maxLen; omega
          case h8c4 => omega
          case h8c5 => have := hbr.size; simp; omega
          intro v2 w2 hown2 hg2 _
          have hrow : ∀ g, u5.ownBlock = some g → w.heap.size ≤ g := fun g hg => (hown.lt g hg).1
          have hb2 : Below w.heap.size w w2 := (hbr.alloc hbr.size _).grown hg2 (by have := hbr.size; simp; omega) hrow
          have HO := Lib.hid (show w2.ownsRow w.heap.size 3 1 v2 (out ++ [l]).length (limI (out ++ [l])) by
            have e : limI (out ++ [l]) = limI out ++ [.int .i64 ((l : Int))] := by rw [limI_append]; simp [limI]
            rw [e, List.length_append, hlen]
            exact hown2)
          clear hown2 hg2 hrow hown
          go_wp2
          go_roundw
          case rel => exact ⟨k + 1, 0, _, by omega, by go_num, rfl, HN.out, HO.out, hb2⟩
          case measure => simp [intOf]; omega
    · have HO := Lib.hid hown
      have HL := Lib.hid hlen
      have hk : k = a.length := by omega
      have HV := Lib.hid (HI.out.done (by omega) (by omega) HI.out.2.1 HLE.out hk)
      have HS := Lib.hid HI.out.2.1
      clear hown hlen
      obtain ⟨A, cp, rfl, hr, hc1', hc2'⟩ := own_formI HO.out
      have HC2 := Lib.hid hc2'
      clear hc2'
      have HK := Lib.hid hk
      clear hk
      go_wp2_with fail
      refine (rtrim_any _ _ _ _ _ hc1' HC2.out hr).mono ?_
      rintro e w2 ⟨⟨m, hm, rfl, ht, hv⟩, rfl⟩
      have HR := Lib.hid (show RepI wr a.length (.slice A m cp) (val a - val b) from repI_trim hr hc1' HC2.out hm HS.out ht (hv.trans HV.out) (by have := HL.out; have := HK.out; omega))
      clear ht hv
      go_wp2
      go_ret
      exact ⟨⟨_, rfl, HR.out⟩, hbr⟩
set_option maxRecDepth 100000 in
set_option maxHeartbeats 1000000 in
theorem rorderL_any (A1 A2 : Option Addr) (a b : List Nat) (c1 c2 : Nat) (w : World) (ha : Small a) (hb : Small b) (hta : Top a) (htb : Top b) (hla : a.length ≤ maxLen) (_hlb : b.length ≤ maxLen) (hra : Reads w w.heap.size 1 A1 a.length (limI a)) (hrb : Reads w w.heap.size 1 A2 b.length (limI b)) :
    Calls Tryz.prog 40 #[.slice A1 a.length c1, .slice A2 b.length c2] w fun e w' => e = .returned (.int .i64 (ordI (val a) (val b))) ∧ Below w.heap.size w w' := by
  unfold maxLen at hla _hlb
  have HTA := Lib.hid hta
  have HTB := Lib.hid htb
  clear hta htb
  go_enter Tryz.func40, Tryz.ntmps40
  by_cases hl : (a.length : Int) < b.length
  · have HR := Lib.hid (lt_of_len ha HTB.out (show a.length < b.length by omega))
    have hne : ((a.length : Int) != (b.length : Int)) = true := by simp; omega
    go_wp2
    go_ret
    exact ⟨ret_int (by rw [ordI_lt (by have := HR.out; omega)]), Below.refl _ _⟩
  by_cases hg : (b.length : Int) < a.length
  · have HR := Lib.hid (lt_of_len hb HTA.out (show b.length < a.length by omega))
    have hne : ((a.length : Int) != (b.length : Int)) = true := by simp; omega
    go_wp2
    go_ret
    exact ⟨ret_int (by rw [ordI_gt (by have := HR.out; omega)]), Below.refl _ _⟩
  have hab : b.length = a.length := by omega
  have HAB := Lib.hid hab
  have hne : ((a.length : Int) != (b.length : Int)) = false := by simp; omega
  clear hl hg hab
  go_wp2
  go_loopw [5] (fun s wr => ∃ m : Nat, m ≤ a.length ∧ s = .int .i64 ((m : Int) - 1) ∧ a.drop m = b.drop m ∧ Below w.heap.size w wr) (fun s _ => (intOf s + 1).toNat)
  case atStart => exact ⟨a.length, Nat.le_refl _, rfl, by rw [List.drop_of_length_le (Nat.le_refl _), List.drop_of_length_le (by rw [HAB.out]; exact Nat.le_refl _)], Below.refl _ _⟩
  case round =>
    obtain ⟨m, hm, rfl, hd, hbr⟩ := hrel
    have HD := Lib.hid hd
    clear hd
    by_cases h0 : 0 < m
    · obtain ⟨i, rfl⟩ : ∃ i, m = i + 1 := ⟨m - 1, by omega⟩
      have hia : i < a.length := by omega
      have hib : i < b.length := by have := HAB.out; omega
      have ec : ((i + 1 : Nat) : Int) - 1 = (i : Int) := by omega
      rw [ec]
      obtain ⟨ad, rfl, hca⟩ := (hra.below hbr).limbI hia
      obtain ⟨bd, rfl, hcb⟩ := (hrb.below hbr).limbI hib
      have HX := Lib.hid (show ∃ x y : Nat, a[i] = x ∧ b[i] = y from ⟨_, _, rfl, rfl⟩)
      obtain ⟨x, y, hx, hy⟩ := HX.out
      clear HX
      have hx1 : x < 1000000000 := by rw [← hx]; exact ha.at_ hia
      have hy1 : y < 1000000000 := by rw [← hy]; exact hb.at_ hib
      rw [hx] at hca
      rw [hy] at hcb
      have HXE := Lib.hid hx
      have HYE := Lib.hid hy
      clear hx hy
      by_cases hlt : (x : Int) < (y : Int)
      · have HR := Lib.hid (lt_at ha hia hib HD.out (by rw [HXE.out, HYE.out]; omega))
        have hne2 : ((x : Int) != (y : Int)) = true := by simp; omega
        go_wp2
        go_quiet (fail)
        go_wp2
        go_quiet (fail)
        go_wp2
        go_ret
        exact ⟨ret_int (by rw [ordI_lt (by have := HR.out; omega)]), (hbr.drewN _).drewN _⟩
      · by_cases hgt : (y : Int) < (x : Int)
        · have HR := Lib.hid (lt_at hb hib hia HD.out.symm (by rw [HXE.out, HYE.out]; omega))
          have hne2 : ((x : Int) != (y : Int)) = true := by simp; omega
          go_wp2
          go_quiet (fail)
          go_wp2
          go_quiet (fail)
          go_wp2
          go_ret
          exact ⟨ret_int (by rw [ordI_gt (by have := HR.out; omega)]), (hbr.drewN _).drewN _⟩
        · have HN := Lib.hid (drop_top hia hib HD.out (by rw [HXE.out, HYE.out]; omega))
          have hne2 : ((x : Int) != (y : Int)) = false := by simp; omega
          go_wp2
          go_quiet (fail)
          go_wp2
          go_roundw
          case rel => exact ⟨i, by omega, by go_num, HN.out, hbr.drewN _⟩
          case measure => simp [intOf]
    · obtain rfl : m = 0 := by omega
      have HE := Lib.hid (show a = b by simpa using HD.out)
      go_wp2
      go_ret
      exact ⟨ret_int (by rw [HE.out, ordI_eq]), hbr⟩
end Go.Proofs.YtmpelpmhbadjoaaGreatDoor
