/- The reference's naturals: over and common. -/
import Derived.Test.YtmpelpmhbadjoaaGreatDoorRN3
import Derived.Test.YtmpelpmhbadjoaaGreatDoorRPlain
import Derived.Deep.Cut
import Derived.Deep.CutBlock
import Derived.Deep.LoopGhost
namespace Go.Proofs.YtmpelpmhbadjoaaGreatDoor
open Go.RowKit Limb RefN

/-- append onto a row of the call's own, the source whatever slice reads as a list -/
theorem wpList_append_src {P : Program} {w : World} {ops : Array Oper} {rest : List Oper} {o : Oper} {a : Act} {Q : Exit → Act → World → Prop} (hgd : o.guard = none) (s x : Operand) (t : TypeId)
    (ho : o.op = .call { callee := .builtin .append, args := #[s, x], argTypes := #[t, t] })
    (base : Nat) (e : TypeId) (i : TypeInfo) (z : Value) (bytes : Nat) (ht : P.underlying t = some (.slice e)) (hi : P.info? e = some i) (hz : i.zero = some z)
    (hsize : i.size = 1) (hby : i.bytes = bytes) (hzs : z.cells.size = 1)
    (v : Value) (n : Nat) (xs : List Value) (hs : a.eval s = v) (hown : w.ownsRow base e 1 v n xs)
    (B' : Nat) (A : Option Addr) (m c : Nat) (news : List Value) (hx : a.eval x = .slice A m c) (hr : Reads w B' 1 A m news) (h1 : ∀ u ∈ news, u.oneCell' = true)
    (h63 : n + m ≤ maxLen) (hbytes : (n + m) * bytes ≤ 140737488355328) (hbase : base ≤ w.heap.size)
    (h : ∀ v' w', w'.ownsRow base e 1 v' (n + m) (xs ++ news) → w.grownBy w' v.ownBlock → wpList P ops Q rest (a.put o.dst v') w') : wpList P ops Q (o :: rest) a w := by
  cases A with
  | none =>
    have hm : m = 0 := Classical.byContradiction fun h0 => by
      obtain ⟨ad, e, _⟩ := hr.2 (by omega)
      cases e
    subst hm
    have hn : news = [] := List.eq_nil_of_length_eq_zero (by simpa using hr.1)
    subst hn
    have hrun : (Builtin.append_ #[t, t] o.type #[v, .slice none 0 c]).run P w = .ok v w := by
      rcases hown.2 with ⟨rfl, rfl⟩ | ⟨g, cap, cur, rfl, _, _, hnc, _⟩
      · simp [Builtin.append_, run_underlying ht, sizeOf, typeInfo, hi, Builtin.lenOf, Builtin.firstCells]
      · simp [Builtin.append_, run_underlying ht, sizeOf, typeInfo, hi, Builtin.lenOf, Builtin.firstCells, hnc, storeCells]
    refine wpList_plain hgd fun K hK => ?_
    unfold Oper.wp
    simp [execOp, ho, resolve, invoke, builtin, hs, hx, hrun, Result.andThen]
    exact hK _ _ (h v w (by simpa using hown) (World.grownBy.refl w _))
  | some ad =>
    refine wpList_append_own w hgd s x t ho base e i z 1 bytes ht hi hz hsize hby hzs (by decide) v n xs hs hown ad m c news hx hr.1 (fun j u hu => ?_) h1 h63 hbytes hbase (fun v' w' h1 h2 _ => h v' w' h1 h2)
    have hjm : j < m := by
      have := (List.getElem?_eq_some_iff.1 hu).1
      have := hr.1
      omega
    obtain ⟨ad', e', _, hc⟩ := hr.2 (by omega)
    injection e' with e'
    subst e'
    exact hc j u hu
theorem limI_one (l : List Nat) : ∀ u ∈ limI l, u.oneCell' = true := by
  intro u hu
  simp only [limI, List.mem_map] at hu
  obtain ⟨x, _, rfl⟩ := hu
  rfl
theorem val_drop_le (l : List Nat) (k : Nat) : val (l.drop k) ≤ val l := by
  by_cases h : k ≤ l.length
  · have := val_split l k h
    have h2 : val (l.drop k) * 1 ≤ val (l.drop k) * 1000000000 ^ k := Nat.mul_le_mul_left _ (pow_pos k)
    rw [Nat.mul_comm (val (l.drop k)) (1000000000 ^ k)] at h2
    omega
  · rw [List.drop_of_length_le (by omega)]
    simp [val]
theorem RepI.far {w : World} {L x n c g i : Nat} {A : Option Addr} (h : RepI w L (.slice A n c) x) (hne : ∀ ad, A = some ad → g ≠ ad.block) (u : Value) : RepI (w.setCell ⟨g, i, none⟩ u) L (.slice A n c) x := by
  obtain ⟨l, A', c', h1, h2, h3, h4, h5, h6⟩ := h.ex
  injection h1 with e1 e2 e3
  subst e1 e3
  refine ⟨l, A, c, by rw [e2], h2, h3, h4, ⟨h5.1, fun h0 => ?_⟩, h6⟩
  obtain ⟨ad, e, hb, hc⟩ := h5.2 h0
  refine ⟨ad, e, by simpa [World.setCell] using hb, fun k z hz => ?_⟩
  rw [World.cell?_setCell_other]
  · exact hc k z hz
  · intro e'
    have := congrArg Addr.block e'
    rw [block_of_add] at this
    exact hne ad e this
/-- the loop of the long division, at its head -/
structure OverR (w0 wr : World) (a : List Nat) (b F : Nat) (i r : Value) : Prop where
  ex : ∃ (m : Nat) (q : List Nat) (ρ : Nat), i = .int .i64 ((m : Int) - 1) ∧ LongInv a b F m q ρ ∧ RepI wr a.length r ρ ∧ wr.ownsRow w0.heap.size 3 1 (.slice (some ⟨w0.heap.size, 0, none⟩) F F) F (limI q) ∧ Below w0.heap.size w0 wr
set_option maxRecDepth 100000 in
set_option maxHeartbeats 4000000 in
theorem rover_rep (w : World) (L M : Nat) (va vb : Value) (x y : Nat) (hra : RepI w L va x) (hrb : RepI w M vb y) (hL : L ≤ 10000) (hM : M ≤ 10000) (hy : 0 < y) :
    Calls Tryz.prog 53 #[va, vb] w fun e w' => (∃ q r, e = .returned (.tuple #[q, r]) ∧ RepI w' L q (x / y) ∧ RepI w' L r (x % y)) ∧ Below w.heap.size w w' := by
  obtain ⟨a, A, c, rfl, ha1, ha2, rfl, ha3, ha4, ha5, ha6⟩ := hra.ex
  obtain ⟨b, B', c', rfl, hb1, hb2, rfl, hb3, hb4, hb5, hb6⟩ := hrb.ex
  have HA := Lib.hid hra
  have HB := Lib.hid hrb
  have HA1 := Lib.hid ha1
  have HA2 := Lib.hid ha2
  have HB2 := Lib.hid hb2
  have HA4 := Lib.hid ha4
  have hbl := val_pos_len hy
  have HBN := Lib.hid (show b ≠ [] by intro e; subst e; simp at hbl)
  have HY := Lib.hid hy
  obtain ⟨i0, hi, hz0, hz1, hz2⟩ := info_parts infoI
  clear hra hrb ha2 hb2 hy ha4
  go_enter Tryz.func53, Tryz.ntmps53
  go_wp2_with fail
  refine (rorder_rep w L M _ _ _ _ HA.out HB.out (by omega) (by omega)).mono ?_
  rintro e w0 ⟨rfl, hb0⟩
  by_cases hlt : (val a : Int) < (val b : Int)
  · have HQ := Lib.hid (show RepI w0 L (.slice none 0 0) (val a / val b) by
      rw [Nat.div_eq_of_lt (by omega)]
      exact RepI.nil_.mono (Nat.zero_le _))
    have HR := Lib.hid (show RepI w0 L (.slice A a.length c) (val a % val b) by
      rw [Nat.mod_eq_of_lt (by omega)]
      exact HA.out.below hb0)
    rw [ordI_lt hlt]
    clear hlt
    go_wp2
    go_ret2
    exact ⟨⟨_, _, rfl, HQ.out, HR.out⟩, hb0⟩
  have HLEN := Lib.hid (len_of_le (l := b) (a := a) HB2.out HA1.out (by omega))
  obtain ⟨o, ho⟩ : ∃ o, ordI (val a : Int) (val b : Int) = o := ⟨_, rfl⟩
  have ho0 : ¬ o < 0 := by
    rw [← ho]
    unfold ordI
    rw [if_neg hlt]
    split <;> omega
  rw [ho]
  clear ho hlt
  obtain ⟨F, hF⟩ : ∃ F, F = a.length - b.length + 1 := ⟨_, rfl⟩
  have hFi : (a.length : Int) - (b.length : Int) + 1 = (F : Int) := by have := HLEN.out; omega
  have hF1 : 1 ≤ F := by omega
  have hF2 : F ≤ a.length := by have := HLEN.out; omega
  have HF := Lib.hid hF
  clear hF
  have hra := (ha3.below hb0).more hb0.size
  have hszb := hb0.size
  go_wp2_with (at_make; refine wpList_make_full _ rfl _ _ 50 rfl w0.heap.size 3 i0 (.int .i64 0) 1 Tryz.underlying50 hi hz0 hz1 .i64 .i64 (F : Int) (F : Int) F rfl rfl (by simp) (by simp) ?m1 ?m2 ?m3 ?_)
  case m1 => rw [hz2]; omega
  case m2 => unfold maxLen; omega
  case m3 => exact Nat.le_refl _
  intro w1 hown hg1
  have hb1 : Below w0.heap.size w0 w1 := (Below.refl _ _).grown hg1 (Nat.le_refl _) (fun g hg => by cases hg)
  have HO := Lib.hid (show w1.ownsRow w0.heap.size 3 1 (.slice (some ⟨w0.heap.size, 0, none⟩) F F) F (limI (List.replicate F 0)) by
    rw [limI_zeros, ← toList_madeCells_one, ← Nat.mul_one F]
    simpa using hown)
  have hra1 := hra.below hb1
  have hs1 := hb1.size
  clear hown hg1
  obtain ⟨ad, rfl, hadb, -⟩ := hra.2 (by omega)
  go_upto_region 5 with (fail)
  go_cut [0, 8, 13, 18] (fun s0 r s13 s18 wx => s0 = .slice (some ad) a.length c ∧ s13 = .slice (some ad) a.length c ∧ s18 = .slice (some ad) a.length c ∧ RepI wx a.length r (val (a.drop F)) ∧ wx.ownsRow w0.heap.size 3 1 (.slice (some ⟨w0.heap.size, 0, none⟩) F F) F (limI (List.replicate F 0)) ∧ Below w0.heap.size w0 wx)
  case first =>
    have hcut := hra1.cut (k := F) (cap := c) (by omega) HA4.out
    by_cases hcF : c = F
    · rw [if_pos hcF] at hcut
      simp only [Nat.mul_one] at hcut
      have HC := Lib.hid hcut
      clear hcut
      have hac := HA4.out
      go_wp2_with (at_builtin; refine wpList_append_src rfl _ _ 50 rfl w1.heap.size 3 i0 (.int .i64 0) 8 Tryz.underlying50 hi hz0 hz1 hz2 rfl _ 0 [] rfl (own_empty w1 w1.heap.size 3 (Nat.le_refl _)) _ _ _ _ _ rfl ((HC.out.more hs1).alloc (Nat.le_refl _) _) ?k1c1 ?k1c2 ?k1c3 ?k1c4 ?_)
      case k1c1 => intro u hu; exact limI_one a u (List.mem_of_mem_drop hu)
      case k1c2 => unfold maxLen; omega
      case k1c3 => omega
      case k1c4 => simp
      intro v8 w8 hown8 hg8
      have hb8 : Below w1.heap.size w1 w8 := ((Below.refl w1.heap.size w1).alloc (Nat.le_refl _) _).grown hg8 (by simp) (fun g hg => by simp [Value.ownBlock] at hg; omega)
      have hl8 : (a.drop F).length = a.length - F := List.length_drop
      have HO8 := Lib.hid (show w8.ownsRow w1.heap.size 3 1 v8 (a.drop F).length (limI (a.drop F)) by
        rw [hl8]
        have h := hown8
        simp only [limI, List.map_drop] at h ⊢
        simpa using h)
      have HQ8 := Lib.hid (own_below HO.out hb8)
      clear hown8 hg8
      go_wp2_with (fail)
      go_meet
      exact ⟨by rw [hcF], by rw [hcF], by rw [hcF], (repI_own HO8.out (HA1.out.drop F) (top_drop HA2.out F) rfl (by rw [hl8]; omega)), HQ8.out, hb1.trans (hb8.mono hb1.size)⟩
    · rw [if_neg hcF] at hcut
      simp only [Option.map_some, Nat.mul_one] at hcut
      have HC := Lib.hid hcut
      clear hcut
      have hac := HA4.out
      go_wp2_with (at_builtin; refine wpList_append_src rfl _ _ 50 rfl w1.heap.size 3 i0 (.int .i64 0) 8 Tryz.underlying50 hi hz0 hz1 hz2 rfl _ 0 [] rfl (own_empty w1 w1.heap.size 3 (Nat.le_refl _)) _ _ _ _ _ rfl ((HC.out.more hs1).alloc (Nat.le_refl _) _) ?k2c1 ?k2c2 ?k2c3 ?k2c4 ?_)
      case k2c1 => intro u hu; exact limI_one a u (List.mem_of_mem_drop hu)
      case k2c2 => unfold maxLen; omega
      case k2c3 => omega
      case k2c4 => simp
      intro v8 w8 hown8 hg8
      have hb8 : Below w1.heap.size w1 w8 := ((Below.refl w1.heap.size w1).alloc (Nat.le_refl _) _).grown hg8 (by simp) (fun g hg => by simp [Value.ownBlock] at hg; omega)
      have hl8 : (a.drop F).length = a.length - F := List.length_drop
      have HO8 := Lib.hid (show w8.ownsRow w1.heap.size 3 1 v8 (a.drop F).length (limI (a.drop F)) by
        rw [hl8]
        have h := hown8
        simp only [limI, List.map_drop] at h ⊢
        simpa using h)
      have HQ8 := Lib.hid (own_below HO.out hb8)
      clear hown8 hg8
      go_wp2_with (fail)
      go_meet
      exact ⟨rfl, rfl, rfl, (repI_own HO8.out (HA1.out.drop F) (top_drop HA2.out F) rfl (by rw [hl8]; omega)), HQ8.out, hb1.trans (hb8.mono hb1.size)⟩
  case rest =>
  obtain ⟨rfl, rfl, rfl, hr, hq, hbx⟩ := hcut
  have HR0 := Lib.hid hr
  have HQ0 := Lib.hid hq
  have HST := Lib.hid (LongInv.start (a := a) (b := val b) (first := F) (by rw [HF.out]; exact first_lt HA1.out HB2.out HBN.out HLEN.out))
  clear hr hq HO hra1 hs1
  go_wp2_with fail
  go_loopw [9, 8, 10, 11, 12] (fun i r _ _ _ wr => OverR w0 wr a (val b) F i r) (fun i _ _ _ _ _ => (intOf i + 1).toNat)
  case atStart => exact ⟨F, _, _, rfl, HST.out, HR0.out, HQ0.out, hbx⟩
  case round =>
    obtain ⟨m, q, ρ, rfl, hli, hr, hq, hbr⟩ := hrel.ex
    have HLI := Lib.hid hli
    have HRR := Lib.hid hr
    have HQQ := Lib.hid hq
    have hmF : m ≤ F := hli.le
    clear hli hr hq hrel HST HR0 HQ0 hbx hb1
    have hszr := hbr.size
    have hszq : w0.heap.size < wr.heap.size := (HQQ.out.lt w0.heap.size (by simp [Value.ownBlock])).2
    by_cases h0 : 0 < m
    · obtain ⟨i, rfl⟩ : ∃ i, m = i + 1 := ⟨m - 1, by omega⟩
      have ec : ((i + 1 : Nat) : Int) - 1 = (i : Int) := by omega
      rw [ec]
      have hia : i < a.length := by omega
      obtain ⟨x, hxe⟩ : ∃ x, a[i] = x := ⟨_, rfl⟩
      have hx : x < 1000000000 := by rw [← hxe]; exact HA1.out.at_ hia
      have hca : wr.cell? (ad.add i) = some (.int .i64 (x : Int)) := by
        obtain ⟨ad', e, h⟩ := (hra.below hbr).limbI hia
        injection e with e
        subst e
        rw [h, hxe]
      obtain ⟨d, hd⟩ : ∃ d, d = (x + 1000000000 * ρ) / val b := ⟨_, rfl⟩
      obtain ⟨ρ', hρ⟩ : ∃ ρ', ρ' = (x + 1000000000 * ρ) % val b := ⟨_, rfl⟩
      have HNX := Lib.hid (HLI.out.next hia hxe hd hρ HY.out hx)
      have HD := Lib.hid hd
      have HP := Lib.hid hρ
      have HLE := Lib.hid (show x + 1000000000 * ρ ≤ val a by
        have h1 := val_drop_le a i
        rw [List.drop_eq_getElem_cons hia, val, hxe, HLI.out.eq] at h1
        have : 1000000000 * ρ ≤ 1000000000 * (val b * val (q.drop (i + 1)) + ρ) := Nat.mul_le_mul_left _ (by omega)
        omega)
      clear hd hρ hxe ec
      obtain ⟨l, Al, cl, rfl, hl1, hl2, hl3, hl4, hl5, hl6, hl7⟩ := HRR.out.ex
      have HL1 := Lib.hid hl1
      have HL3 := Lib.hid hl3
      clear hl1 hl2 hl3 HRR
      go_upto_region 9 with (fail)
      go_cut [8] (fun r wx => RepI wx a.length r (x + 1000000000 * ρ) ∧ wx.ownsRow w0.heap.size 3 1 (.slice (some ⟨w0.heap.size, 0, none⟩) F F) F (limI q) ∧ Below w0.heap.size w0 wx ∧ ∃ g8 n8 c8, r = .slice (some ⟨g8, 0, none⟩) n8 c8 ∧ w0.heap.size < g8)
      case first =>
        go_wp2_with (at_builtin; refine wpList_append_src rfl _ _ 50 rfl wr.heap.size 3 i0 (.int .i64 0) 8 Tryz.underlying50 hi hz0 hz1 hz2 rfl _ 1 [.int .i64 (x : Int)] rfl ?k3c0 _ _ _ _ (limI l) rfl (hl4.alloc (Nat.le_refl _) _) ?k3c1 ?k3c2 ?k3c3 ?k3c4 ?_)
        case k3c0 => exact World.ownsRow_lit wr #[.int .i64 (x : Int)] 1 (Nat.le_refl _) (by unfold maxLen; omega) rfl
        case k3c1 => exact limI_one l
        case k3c2 => unfold maxLen; omega
        case k3c3 => omega
        case k3c4 => simp
        intro v8 w8 hown8 hg8
        have hb8 : Below wr.heap.size wr w8 := ((Below.refl wr.heap.size wr).alloc (Nat.le_refl _) _).grown hg8 (by simp) (fun g hg => by simp [Value.ownBlock] at hg; omega)
        have HO8 := Lib.hid (show w8.ownsRow wr.heap.size 3 1 v8 (x :: l).length (limI (x :: l)) by
          rw [List.length_cons, Nat.add_comm]
          exact hown8)
        have HQ8 := Lib.hid (own_below HQQ.out hb8)
        clear hown8 hg8
        obtain ⟨g8, c8, rfl, hg8a, hg8b, hc8, hm8⟩ := own_at HO8.out (by simp)
        have hr8 := Reads.of_own HO8.out
        have HM8 := Lib.hid hm8
        have HR8 := Lib.hid hr8
        clear hm8 hr8
        go_wp2_with fail
        refine (rtrim_any _ _ _ _ _ hc8 HM8.out HR8.out).mono ?_
        rintro e w9 ⟨⟨mm, hmm, rfl, ht, hv⟩, rfl⟩
        have HV := Lib.hid (show RepI w8 a.length (.slice (some ⟨g8, 0, none⟩) mm c8) (x + 1000000000 * ρ) from
          (repI_trim HR8.out hc8 HM8.out hmm (show Small (x :: l) from fun y hy => by
            rcases List.mem_cons.1 hy with rfl | hy
            · exact hx
            · exact HL1.out y hy) ht (hv.trans (by rw [val, HL3.out])) (Nat.le_refl _)).len HA1.out HLE.out)
        clear ht hv
        go_wp2_with (fail)
        go_meet
        exact ⟨HV.out, HQ8.out, hbr.trans (hb8.mono hszr), g8, mm, c8, rfl, by omega⟩
      case rest =>
      obtain ⟨hr, hq, hbx, g8, nr, cr, rfl, hg8⟩ := hcut
      have hbw := hb0.trans (hbx.mono hb0.size)
      have HBc := Lib.hid (HB.out.below hbw)
      obtain ⟨T, hT⟩ : ∃ T, T = x + 1000000000 * ρ := ⟨_, rfl⟩
      rw [← hT] at HD HP hr
      have HRc := Lib.hid hr
      have HQc := Lib.hid hq
      have HTT := Lib.hid hT
      have hszc := hbx.size
      clear hr hq hT hl4 hl5 hl6 hl7 HL1 HL3 HQQ hca hbr
      go_wp2_with fail
      refine (rorder_rep wc a.length M _ _ _ _ HRc.out HBc.out (by omega) (by omega)).mono ?_
      rintro e w4 ⟨rfl, hb4⟩
      by_cases hTb : (T : Int) < (val b : Int)
      · have HZ := Lib.hid (show q.set i d = q ∧ ρ' = T by
          have e0 : d = 0 := by rw [HD.out]; exact Nat.div_eq_of_lt (by omega)
          have e1 : ρ' = T := by rw [HP.out]; exact Nat.mod_eq_of_lt (by omega)
          refine ⟨?_, e1⟩
          have hil : i < q.length := by rw [HLI.out.len]; omega
          have h := congrArg (fun l => l[i]?) HLI.out.low
          simp only [List.getElem?_take, List.getElem?_replicate, show i < i + 1 from by omega, if_true] at h
          rw [List.getElem?_eq_getElem hil] at h
          have h := Option.some.inj h
          rw [e0, ← h, List.set_getElem_self])
        have HOV := Lib.hid (show OverR w0 w4 a (val b) F (.int .i64 ((i : Int) - 1)) (.slice (some ⟨g8, 0, none⟩) nr cr) from
          ⟨⟨i, q, ρ', rfl, HZ.out.1 ▸ HNX.out.2, HZ.out.2 ▸ HRc.out.below hb4, own_below HQc.out (hb4.mono (Nat.le_refl _)), hbx.trans (hb4.mono hbx.size)⟩⟩)
        rw [ordI_lt hTb]
        clear hTb
        go_wp2
        go_roundw
        case rel => exact HOV.out
        case measure => simp [intOf]
      obtain ⟨o2, ho2⟩ : ∃ o2, ordI (T : Int) (val b : Int) = o2 := ⟨_, rfl⟩
      have ho3 : ¬ o2 < 0 := by
        rw [← ho2]
        unfold ordI
        rw [if_neg hTb]
        split <;> omega
      rw [ho2]
      have HQ4 := Lib.hid (own_below HQc.out (hb4.mono (Nat.le_refl _)))
      have HR4 := Lib.hid (HRc.out.below hb4)
      have HB4 := Lib.hid (HBc.out.below hb4)
      have hbx4 := hbx.trans (hb4.mono hbx.size)
      have hs4 := hbx4.size
      have hd9 : d < 1000000000 := HNX.out.1
      clear ho2 hTb HRc HQc HBc hb4
      go_wp2
      go_loopw [10, 11, 12] (fun lo hi _ wr => ∃ l h : Nat, lo = .int .i64 (l : Int) ∧ hi = .int .i64 (h : Int) ∧ l ≤ d ∧ d ≤ h ∧ h ≤ 999999999 ∧ Below w4.heap.size w4 wr) (fun lo hi _ _ => (intOf hi - intOf lo).toNat)
      case atStart => exact ⟨0, 999999999, rfl, rfl, Nat.zero_le _, by omega, Nat.le_refl _, Below.refl _ _⟩
      case round =>
        obtain ⟨l2, h2, rfl, rfl, hld, hdh, hh9, hbz⟩ := hrel
        by_cases hlh : l2 < h2
        · obtain ⟨n, hn⟩ : ∃ n, n = (l2 + h2 + 1) / 2 := ⟨_, rfl⟩
          have hni : ((l2 : Int) + (h2 : Int) + 1) / 2 = (n : Int) := by omega
          have hnl : l2 < n := by omega
          have hnh : n ≤ h2 := by omega
          clear hn
          go_wp2_with fail
          refine (rsmall_any n wr (by omega)).mono ?_
          rintro e w5 ⟨⟨v5, rfl, hv5⟩, hb5⟩
          have HV5 := Lib.hid hv5
          clear hv5
          have hbz5 := hbz.trans (hb5.mono hbz.size)
          go_wp2_with fail
          refine (rtimes_rep w5 M 3 _ _ _ _ (HB4.out.below hbz5) HV5.out (by omega) (by omega)).mono ?_
          rintro e w6 ⟨⟨v6, rfl, hv6⟩, hb6⟩
          have HV6 := Lib.hid hv6
          clear hv6
          have hbz6 := hbz5.trans (hb6.mono hbz5.size)
          go_wp2_with fail
          refine (rorder_rep w6 (M + 3 + 1) a.length _ _ _ _ HV6.out (HR4.out.below hbz6) (by omega) (by omega)).mono ?_
          rintro e w7 ⟨rfl, hb7⟩
          have hbz7 := hbz6.trans (hb7.mono hbz6.size)
          by_cases hle : n ≤ d
          · have ho4 : ordI ((val b * n : Nat) : Int) (T : Int) ≤ 0 := by
              have h1 : val b * n ≤ T := (le_div HY.out).2 (by rw [← HD.out]; exact hle)
              unfold ordI
              split
              · omega
              · rw [if_neg (by omega)]; omega
            obtain ⟨o4, ho5⟩ : ∃ o4, ordI ((val b * n : Nat) : Int) (T : Int) = o4 := ⟨_, rfl⟩
            rw [ho5] at ho4 ⊢
            clear ho5
            go_wp2
            go_roundw
            case rel => exact ⟨n, h2, rfl, rfl, hle, hdh, hh9, hbz7⟩
            case measure => simp [intOf]; omega
          · have ho4 : ¬ ordI ((val b * n : Nat) : Int) (T : Int) ≤ 0 := by
              have h1 : ¬ val b * n ≤ T := fun h => hle (by rw [HD.out]; exact (le_div HY.out).1 h)
              unfold ordI
              rw [if_neg (by omega), if_pos (by omega)]; omega
            obtain ⟨o4, ho5⟩ : ∃ o4, ordI ((val b * n : Nat) : Int) (T : Int) = o4 := ⟨_, rfl⟩
            rw [ho5] at ho4 ⊢
            clear ho5
            go_wp2
            go_roundw
            case rel => exact ⟨l2, n - 1, rfl, by go_num, hld, by omega, by omega, hbz7⟩
            case measure => simp [intOf]; omega
        · have hl2 : l2 = d := by omega
          subst hl2
          have hqc := own_below HQ4.out hbz
          have hcell : wr.cell? ⟨w0.heap.size, i, none⟩ = some (.int .i64 ((q.getD i 0 : Nat) : Int)) := by
            rw [hqc.cellAt i (by omega), limI_at (by rw [HLI.out.len]; omega)]
            congr 3
            rw [getD_at (by rw [HLI.out.len]; omega)]
          have hfz := hqc.frozenAt i
          have st := hqc.stored i (.int .i64 (l2 : Int))
          rw [limI_set] at st
          have HST2 := Lib.hid st.1
          have hbs := (hbx4.trans (hbz.mono hbx4.size)).setCell (p := ⟨w0.heap.size, i, none⟩) (Nat.le_refl _) (.int .i64 (l2 : Int))
          clear hqc st
          go_wp2_with fail
          obtain ⟨WS, hWS⟩ : ∃ WS, WS = wr.setCell ⟨w0.heap.size, i, none⟩ (.int .i64 (l2 : Int)) := ⟨_, rfl⟩
          have HQS := Lib.hid (hWS ▸ HST2.out : WS.ownsRow w0.heap.size 3 1 (.slice (some ⟨w0.heap.size, 0, none⟩) F F) F (limI (q.set i l2)))
          have hbS : Below w0.heap.size w0 WS := hWS ▸ hbs
          have hcw : wr.cell? ⟨w0.heap.size, i, none⟩ = some (.int .i64 ((q.getD i 0 : Nat) : Int)) := hcell
          have HRS := Lib.hid (hWS ▸ RepI.far (HR4.out.below hbz) (fun ad e => by injection e with e; subst e; exact Nat.ne_of_lt hg8) (.int .i64 (l2 : Int)) : RepI WS a.length (.slice (some ⟨g8, 0, none⟩) nr cr) T)
          rw [← hWS]
          have hbwS := hb0.trans (hbS.mono hb0.size)
          have HBS := Lib.hid (HB.out.below hbwS)
          clear hWS hcw hcell hfz hbs
          refine (rsmall_any l2 WS (by omega)).mono ?_
          rintro e w5 ⟨⟨v5, rfl, hv5⟩, hb5⟩
          have HV5 := Lib.hid hv5
          clear hv5
          go_wp2_with fail
          refine (rtimes_rep w5 M 3 _ _ _ _ (HBS.out.below hb5) HV5.out (by omega) (by omega)).mono ?_
          rintro e w6 ⟨⟨v6, rfl, hv6⟩, hb6⟩
          have HV6 := Lib.hid hv6
          clear hv6
          have hb56 := hb5.trans (hb6.mono hb5.size)
          go_wp2_with fail
          refine (rminus_rep w6 a.length (M + 3 + 1) _ _ _ _ (HRS.out.below hb56) HV6.out (by omega) ((le_div HY.out).2 (by rw [← HD.out]; exact Nat.le_refl _))).mono ?_
          rintro e w7 ⟨⟨v7, rfl, hv7⟩, hb7⟩
          have hb57 := hb56.trans (hb7.mono hb56.size)
          have HOV := Lib.hid (show OverR w0 w7 a (val b) F (.int .i64 ((i : Int) - 1)) v7 from
            ⟨⟨i, q.set i l2, ρ', rfl, HNX.out.2, by
              have e : T - val b * l2 = ρ' := by
                have h := Nat.div_add_mod T (val b)
                rw [← HD.out, ← HP.out] at h
                omega
              rw [← e]
              exact hv7, own_below HQS.out hb57, hbS.trans (hb57.mono hbS.size)⟩⟩)
          clear hv7
          go_wp2
          go_roundw
          case rel => exact HOV.out
          case measure => simp [intOf]
    · obtain rfl : m = 0 := by omega
      have HDN := Lib.hid HLI.out.done
      have HLQ := Lib.hid (show q.length = F from HLI.out.len)
      have HSQ := Lib.hid HLI.out.sm
      have hr : Reads wr wr.heap.size 1 (some ⟨w0.heap.size, 0, none⟩) q.length (limI q) := by
        have h := HQQ.out
        rw [← HLQ.out] at h
        exact Reads.of_own h
      have HR1 := Lib.hid hr
      have hbw := hb0.trans (hbr.mono hb0.size)
      clear hr
      go_wp2_with fail
      have tr := rtrim_any (some ⟨w0.heap.size, 0, none⟩) q F wr.heap.size wr (by rw [HLQ.out]; exact Nat.le_refl _) (by unfold maxLen; omega) HR1.out
      rw [HLQ.out] at tr
      refine tr.mono ?_
      clear tr
      rintro e w12 ⟨⟨mm, hmm, rfl, ht, hv⟩, rfl⟩
      have HF1 := Lib.hid (show RepI wr L (.slice (some ⟨w0.heap.size, 0, none⟩) mm F) (val a / val b) from
        ((repI_trim HR1.out (by rw [HLQ.out]; exact Nat.le_refl _) (by unfold maxLen; omega) (by rw [HLQ.out]; exact hmm) HSQ.out ht (hv.trans HDN.out.1) (Nat.le_refl _)).len HA1.out (Nat.div_le_self _ _)).mono ha6)
      have HF2 := Lib.hid (HDN.out.2 ▸ (HRR.out.mono ha6))
      clear ht hv
      go_wp2
      go_ret2
      exact ⟨⟨_, _, rfl, HF1.out, HF2.out⟩, hbw⟩
theorem rcommon_rep (w : World) (L : Nat) (va vb : Value) (x y : Nat) (ha : RepI w L va x) (hb : RepI w L vb y) (hL : L ≤ 10000) :
    Calls Tryz.prog 31 #[va, vb] w fun e w' => (∃ v, e = .returned v ∧ RepI w' L v (Nat.gcd x y)) ∧ Below w.heap.size w w' := by
  go_enter Tryz.func31, Tryz.ntmps31
  go_wp2
  go_loopg [0, 1, 5, 6] y (fun k va vb _ _ wr => ∃ x', RepI wr L va x' ∧ RepI wr L vb k ∧ Nat.gcd x' k = Nat.gcd x y ∧ Below w.heap.size w wr)
  case atStart => exact ⟨x, ha, hb, rfl, Below.refl _ _⟩
  case round =>
    obtain ⟨x', hx, hy, hg, hbr⟩ := hrel
    have HX := Lib.hid hx
    have HY := Lib.hid hy
    have HG := Lib.hid hg
    obtain ⟨A, n, c, rfl, hn, hnL⟩ := hy.form
    clear hx hy hg ha hb
    by_cases h0 : 0 < n
    · have hk := hn.1 h0
      clear hn
      go_wp2_with fail
      refine (rover_rep wr L L _ _ x' gk HX.out HY.out hL hL hk).mono ?_
      rintro e w2 ⟨⟨q, r, rfl, hq, hr⟩, hb2⟩
      have HR := Lib.hid hr
      have HY2 := Lib.hid (HY.out.below hb2)
      have HB2 := Lib.hid (hbr.trans (hb2.mono hbr.size))
      clear hq hr
      go_wp2
      go_roundg (x' % gk)
      case measure => exact Nat.mod_lt _ hk
      case rel => exact ⟨gk, HY2.out, HR.out, by rw [← HG.out, Nat.gcd_comm x' gk, Nat.gcd_rec gk x', Nat.gcd_comm], HB2.out⟩
    · have hk : gk = 0 := by
        have := hn
        omega
      subst hk
      have HFI := Lib.hid (show x' = Nat.gcd x y by rw [← HG.out, Nat.gcd_zero_right])
      clear hn
      go_wp2
      go_ret
      exact ⟨⟨_, rfl, HFI.out ▸ HX.out⟩, hbr⟩
end Go.Proofs.YtmpelpmhbadjoaaGreatDoor
