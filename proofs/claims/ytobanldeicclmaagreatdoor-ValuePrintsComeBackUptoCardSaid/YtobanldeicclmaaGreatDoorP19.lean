/- The walk of constantOf. -/
import Derived.Test.YtobanldeicclmaaGreatDoorP17
import Derived.Test.YtobanldeicclmaaGreatDoorP18
namespace Go.Proofs.YtobanldeicclmaaGreatDoor
open Go.RowKit Vtx
attribute [local go_sem ↓] Go.wp_at_zero Go.wp_at_succ
theorem tightF_len : ∀ (f : Nat) (out l : List UInt8), (tightF f out l).length ≤ out.length + l.length
  | 0, out, l => by simp [tightF]
  | f + 1, out, [] => by simp [tightF]
  | f + 1, out, c :: r => by
    rw [tightF]
    split
    · have h1 := tightF_len f (out ++ [c]) r
      simp at h1 ⊢
      omega
    · obtain ⟨o2, ho2⟩ : ∃ o2, (if keepB out (r.dropWhile blankB) then out ++ [32] else out) = o2 := ⟨_, rfl⟩
      have h3 : o2.length ≤ out.length + 1 := by rw [← ho2]; split <;> simp
      rw [ho2]
      have h1 := tightF_len f o2 (r.dropWhile blankB)
      have h2 := dropW_le r
      simp only [List.length_cons]
      omega
theorem tight_len (l : List UInt8) : (tightT l).length ≤ l.length := by
  have h := tightF_len (l.length + 1) [] l
  simpa [tightT] using h
set_option maxHeartbeats 8000000 in
set_option maxRecDepth 100000 in
theorem constantOf_any (g : Nat) (s : ByteArray) (i : Nat) (w : World) (hp : PaAt w g s i) (hm : TM w g) (t : Tok) (r : List Tok) (hL : wordsOf s.data.toList i = t :: r) :
    Calls Tryz.prog 168 #[.pointer (some ⟨g, 0, none⟩)] w fun e w' => PRet w g s (match readF (if braceB t.tx then tightT t.tx else t.tx) with
      | some v => .ok [constE v] r
      | none => .err t.at_) e w' := by
  have HPA := Lib.hid hp
  have HM := Lib.hid hm
  have hlt := hp.b.lt
  have hwt := word_tok hL
  obtain ⟨ea, et, eh⟩ := cur_of hwt.1
  obtain ⟨tl, htx, h32⟩ := tok_head hwt.1
  obtain ⟨c0, hc0⟩ : ∃ c, s.data.toList.getD t.at_ 0 = c := ⟨_, rfl⟩
  rw [hc0] at htx
  have hul := tok_in hwt.1
  rw [data_len] at hul
  have hs4 := hp.s
  have hus : t.tx.length ≤ 4000 := by omega
  have HTR := Lib.hid (show r = wordsOf s.data.toList (curAt s i + (curTx s i).length) by rw [ea, et]; exact hwt.2)
  have HTA := Lib.hid (show t.at_ = curAt s i from ea.symm)
  have c2 : w.cell? ⟨g, 2, none⟩ = some (.string (tb t.tx)) := by have h := hp.b.cell 2; rw [et] at h; exact h
  have hbr : braceB t.tx = decide (c0 = 123) := by unfold braceB; rw [htx]
  obtain ⟨R, hR⟩ : ∃ R, (match readF (if braceB t.tx then tightT t.tx else t.tx) with
      | some v => Res.ok [constE v] r
      | none => Res.err t.at_) = R := ⟨_, rfl⟩
  have HRD0 := Lib.hid hR
  rw [hR]
  obtain ⟨v, hv⟩ : ∃ v, tb t.tx = v := ⟨_, rfl⟩
  have HV0 := Lib.hid hv
  have hu0 : 0 < v.size := by rw [← hv, tb_size, htx]; simp
  have hu1 : v[0] = c0 := by
    subst hv
    have h1 : (tb t.tx).data.toList[0]? = some c0 := by rw [tb_data, htx]; rfl
    have h2 : (tb t.tx).data.toList[0]? = some (tb t.tx)[0] := by
      rw [List.getElem?_eq_getElem (by rw [data_len]; exact hu0)]; rfl
    rw [h2] at h1
    injection h1
  rw [hv] at c2
  have HTV := Lib.hid (show tb (curTx s i) = v by rw [et]; exact hv)
  clear hR hv ea et eh htx h32 hc0 hwt hul hL hp hm
  by_cases hb : c0 = 123
  · have bb : ((v[0].toNat : Int) == 123) = true := by rw [hu1, hb]; rfl
    have bb' : (v[0].toNat == 123) = true := by rw [hu1, hb]; rfl
    rw [hbr, decide_eq_true hb, if_pos rfl] at HRD0
    clear hbr hb hu1
    go_enter Tryz.func168, Tryz.ntmps168
    go_upto_region 1 with (fail)
    obtain ⟨W, hW⟩ : ∃ W, W = w.alloc (.cells #[.int .i64 0, .int .i64 0, .string ⟨#[]⟩, .int .i64 0, .int .i64 0, .string ⟨#[]⟩, .slice none 0 0, .slice none 0 0] 27 (0, 0)) := ⟨_, rfl⟩
    have hkW : Kp g w W := by rw [hW]; exact (kp_refl g w).alloc _
    have HPW := Lib.hid (show PaAt W g s i by rw [hW]; exact HPA.out.alloc _)
    have HMW := Lib.hid (HM.out.kp hkW)
    have BR : Blk W w.heap.size 27 #[.int .i64 0, .int .i64 0, .string ⟨#[]⟩, .int .i64 0, .int .i64 0, .string ⟨#[]⟩, .slice none 0 0, .slice none 0 0] := by rw [hW]; exact Blk.new w _ _
    have hWs : w.heap.size < W.heap.size := BR.lt
    have hszW : W.heap.size = w.heap.size + 1 := by rw [hW]; simp
    have HBR := Lib.hid BR
    rw [← hW]
    clear hW BR
    have d2 : W.cell? ⟨g, 2, none⟩ = some (.string v) := by have h := HPW.out.b.cell 2; rw [show tb (curTx s i) = v from HTV.out] at h; exact h
    go_wp2_with fail
    refine (tight_any v W (by rw [← HV0.out, tb_size]; omega)).mono ?_
    rintro e w2 ⟨rfl, hb2⟩
    have hvd : v.data.toList = t.tx := by rw [← HV0.out, tb_data]
    rw [hvd]
    have HW2 := Lib.hid (Kp.of (g := g) hb2)
    go_wp2_with fail
    have HP2 := Lib.hid (HPW.out.below hb2)
    have HK2 := Lib.hid (hkW.trans (Kp.of hb2))
    have HBR2 := Lib.hid (HBR.out.below hb2 HBR.out.lt)
    clear hb2
    have HMT := Lib.hid (HM.out.kp HK2.out).tab
    refine (Read_any (tb (tightT t.tx)) w2 (by rw [tb_size]; have := tight_len t.tx; omega) HMT.out.1 HMT.out.2).mono ?_
    rw [tb_data]
    rintro e w3 ⟨hrv, hb3⟩
    obtain ⟨x, A, c, f, rfl, hrd, hA, hxl, hxs, q1, q2⟩ := hrv.ex
    have hxl8 : x.l.length ≤ maxLen := by unfold maxLen; omega
    have hxs8 : x.s.size ≤ maxLen := by unfold maxLen; omega
    have HRD := Lib.hid (And.intro hrd hA)
    have HQ := Lib.hid (And.intro q1 q2)
    have hsz3 := hb3.size
    have HPB3 := Lib.hid (HP2.out.below hb3)
    have HBRB3 := Lib.hid (HBR2.out.below hb3 HBR2.out.lt)
    have HK3 := Lib.hid (HK2.out.trans (Kp.of hb3))
    have hszW2 : W.heap.size ≤ w2.heap.size := HW2.out.size
    clear hrv hrd hA q1 q2 hxl hxs hb3
    by_cases hf : f = 0
    · have HV := Lib.hid (HQ.out.1 hf)
      have hrf := readF_yes HV.out.1 HV.out.2
      have HRF := Lib.hid hrf
      subst hf
      clear hrf
      go_upto_region 5 with (fail)
      obtain ⟨W3, hW3⟩ : ∃ W3, W3 = w3.alloc (.cells #[.int .i64 x.k, .int .i64 x.n, .string x.s, .slice A x.l.length c] 24 (0, 0)) := ⟨_, rfl⟩
      have HP3 := Lib.hid (show PaAt W3 g s i by rw [hW3]; exact HPB3.out.alloc _)
      have HBR3 := Lib.hid (show Blk W3 w.heap.size 27 #[.int .i64 0, .int .i64 0, .string ⟨#[]⟩, .int .i64 0, .int .i64 0, .string ⟨#[]⟩, .slice none 0 0, .slice none 0 0] by rw [hW3]; exact HBRB3.out.alloc _)
      have HBV := Lib.hid (show Blk W3 w3.heap.size 24 #[.int .i64 x.k, .int .i64 x.n, .string x.s, .slice A x.l.length c] by rw [hW3]; exact Blk.new w3 _ _)
      have HKW3 := Lib.hid (show Kp g w W3 by rw [hW3]; exact HK3.out.alloc _)
      have hszW3 : W3.heap.size = w3.heap.size + 1 := by rw [hW3]; simp
      have HXR := Lib.hid (show Reads W3 W3.heap.size 1 A x.l.length (numV .i64 x.l) by
        have h1 : Below w3.heap.size w3 W3 := by rw [hW3]; exact (Below.refl _ _).alloc (Nat.le_refl _) _
        exact (HRD.out.1.below h1).more h1.size)
      rw [← hW3]
      clear hW3
      have hglt : g < w3.heap.size := HPB3.out.b.lt
      go_wp2_with (go_at_call 30; (with_reducible refine (next_any g s i _ HP3.out).mono ?_); rintro e w4 ⟨rfl, hp4, hk4⟩; have HP4 := Lib.hid hp4; have HK4 := Lib.hid hk4; have BV4 := HBV.out.kp hk4 (by omega); have BR4 := HBR3.out.kp hk4 (by omega); have vc0 : w4.cell? ⟨w3.heap.size, 0, none⟩ = some (.int .i64 x.k) := BV4.cell 0; have vc1 : w4.cell? ⟨w3.heap.size, 1, none⟩ = some (.int .i64 x.n) := BV4.cell 1; have vc2 : w4.cell? ⟨w3.heap.size, 2, none⟩ = some (.string x.s) := BV4.cell 2; have vc3 : w4.cell? ⟨w3.heap.size, 3, none⟩ = some (.slice A x.l.length c) := BV4.cell 3; clear hp4 hk4)
      refine (constant_any x.k x.n x.s A x.l.length c w4).mono ?_
      rintro e w5 ⟨rfl, hb5⟩
      have B5 := BR4.below hb5 BR4.lt
      have HX4 := Lib.hid (const_in (q := fun b => w3.heap.size ≤ b + w3.heap.size ∧ b ≠ g) (c := c) HXR.out (fun ad e => ⟨by omega, by have := HRD.out.2 ad e; omega⟩) hxl8 hxs8)
      have HX5 := Lib.hid (const_in (q := fun b => W.heap.size ≤ b) (c := c) HXR.out (fun ad e => by have := HRD.out.2 ad e; omega) hxl8 hxs8)
      have HX6 := Lib.hid (((HX5.out.kpq HK4.out (fun k hk => by omega)).keep (Stay.of hb5)).up hb5.size)
      have rc0 : w5.cell? ⟨w.heap.size, 0, none⟩ = some (.int .i64 0) := B5.cell 0
      have rz0 : w5.frozen? ⟨w.heap.size, 0, none⟩ = false := B5.frozen 0
      have rc1 : w5.cell? ⟨w.heap.size, 1, none⟩ = some (.int .i64 0) := B5.cell 1
      have rz1 : w5.frozen? ⟨w.heap.size, 1, none⟩ = false := B5.frozen 1
      have rc2 : w5.cell? ⟨w.heap.size, 2, none⟩ = some (.string ⟨#[]⟩) := B5.cell 2
      have rz2 : w5.frozen? ⟨w.heap.size, 2, none⟩ = false := B5.frozen 2
      have rc3 : w5.cell? ⟨w.heap.size, 3, none⟩ = some (.int .i64 0) := B5.cell 3
      have rz3 : w5.frozen? ⟨w.heap.size, 3, none⟩ = false := B5.frozen 3
      have rc4 : w5.cell? ⟨w.heap.size, 4, none⟩ = some (.int .i64 0) := B5.cell 4
      have rz4 : w5.frozen? ⟨w.heap.size, 4, none⟩ = false := B5.frozen 4
      have rc5 : w5.cell? ⟨w.heap.size, 5, none⟩ = some (.string ⟨#[]⟩) := B5.cell 5
      have rz5 : w5.frozen? ⟨w.heap.size, 5, none⟩ = false := B5.frozen 5
      have rc6 : w5.cell? ⟨w.heap.size, 6, none⟩ = some (.slice none 0 0) := B5.cell 6
      have rz6 : w5.frozen? ⟨w.heap.size, 6, none⟩ = false := B5.frozen 6
      have rc7 : w5.cell? ⟨w.heap.size, 7, none⟩ = some (.slice none 0 0) := B5.cell 7
      have rz7 : w5.frozen? ⟨w.heap.size, 7, none⟩ = false := B5.frozen 7
      go_wp2_with fail
      refine bodyPost_ret (v := .agg #[.int .i64 1, .int .i64 0, .string ⟨#[]⟩, .int .i64 x.k, .int .i64 x.n, .string x.s, .slice A x.l.length c, .slice none 0 0]) (by simp [results, Tryz.results168, go_sem, rc0, rc1, rc2, rc3, rc4, rc5, rc6, rc7]) rfl ?_
      have hend : R = .ok [constE x] (wordsOf s.data.toList (curAt s i + (curTx s i).length)) := by rw [← HRD0.out, HRF.out, HTR.out]
      rw [hend]
      exact ret8 (L := W.heap.size) (x := constE x) (A' := none) (c' := 0) HX6.out hWs hlt (HP4.out.below hb5) ((HKW3.out.trans HK4.out).trans (Kp.of hb5))
    · have hbf : (f == 0) = false := by simp [hf]
      have HNO := Lib.hid (readF_none (HQ.out.2 hf).2.2)
      have HQF := Lib.hid (HQ.out.2 hf).1
      clear hf
      have hend : R = .err (curAt s i) := by rw [← HRD0.out, HNO.out, HTA.out]
      go_wp2_with (go_at_call 32; (with_reducible refine (wrong_any g s i _ (HPB3.out.alloc _)).mono ?_); rintro e w4 ⟨rfl, rfl⟩)
      refine ⟨rfl, ?_⟩
      rw [hend]
      exact ⟨rfl, HK3.out.alloc _⟩
  · have bb : ((v[0].toNat : Int) == 123) = false := by
      have h1 : v[0].toNat ≠ 123 := fun e => hb (by rw [← hu1]; exact UInt8.toNat_inj.1 e)
      simp; omega
    have bb' : (v[0].toNat == 123) = false := by
      have h1 : v[0].toNat ≠ 123 := fun e => hb (by rw [← hu1]; exact UInt8.toNat_inj.1 e)
      simp; omega
    rw [hbr, decide_eq_false hb, if_neg (by decide)] at HRD0
    clear hbr hb hu1
    go_enter Tryz.func168, Tryz.ntmps168
    go_upto_region 1 with (fail)
    obtain ⟨W, hW⟩ : ∃ W, W = w.alloc (.cells #[.int .i64 0, .int .i64 0, .string ⟨#[]⟩, .int .i64 0, .int .i64 0, .string ⟨#[]⟩, .slice none 0 0, .slice none 0 0] 27 (0, 0)) := ⟨_, rfl⟩
    have hkW : Kp g w W := by rw [hW]; exact (kp_refl g w).alloc _
    have HPW := Lib.hid (show PaAt W g s i by rw [hW]; exact HPA.out.alloc _)
    have HMW := Lib.hid (HM.out.kp hkW)
    have BR : Blk W w.heap.size 27 #[.int .i64 0, .int .i64 0, .string ⟨#[]⟩, .int .i64 0, .int .i64 0, .string ⟨#[]⟩, .slice none 0 0, .slice none 0 0] := by rw [hW]; exact Blk.new w _ _
    have hWs : w.heap.size < W.heap.size := BR.lt
    have hszW : W.heap.size = w.heap.size + 1 := by rw [hW]; simp
    have HBR := Lib.hid BR
    rw [← hW]
    clear hW BR
    have d2 : W.cell? ⟨g, 2, none⟩ = some (.string v) := by have h := HPW.out.b.cell 2; rw [show tb (curTx s i) = v from HTV.out] at h; exact h
    obtain ⟨w2, hw2⟩ : ∃ w2, w2 = W := ⟨_, rfl⟩
    have hb2 : Below W.heap.size W w2 := by rw [hw2]; exact Below.refl _ _
    have HW2 := Lib.hid (Kp.of (g := g) hb2)
    go_wp2_with fail
    rw [← hw2]
    clear hw2
    have HP2 := Lib.hid (HPW.out.below hb2)
    have HK2 := Lib.hid (hkW.trans (Kp.of hb2))
    have HBR2 := Lib.hid (HBR.out.below hb2 HBR.out.lt)
    clear hb2
    have HMT := Lib.hid (HM.out.kp HK2.out).tab
    have hvd : v.data.toList = t.tx := by rw [← HV0.out, tb_data]
    have hrd0 := Read_any v w2 (by rw [← HV0.out, tb_size]; omega) HMT.out.1 HMT.out.2
    rw [hvd] at hrd0
    refine hrd0.mono ?_
    clear hrd0 hvd
    rintro e w3 ⟨hrv, hb3⟩
    obtain ⟨x, A, c, f, rfl, hrd, hA, hxl, hxs, q1, q2⟩ := hrv.ex
    have hxl8 : x.l.length ≤ maxLen := by unfold maxLen; omega
    have hxs8 : x.s.size ≤ maxLen := by unfold maxLen; omega
    have HRD := Lib.hid (And.intro hrd hA)
    have HQ := Lib.hid (And.intro q1 q2)
    have hsz3 := hb3.size
    have HPB3 := Lib.hid (HP2.out.below hb3)
    have HBRB3 := Lib.hid (HBR2.out.below hb3 HBR2.out.lt)
    have HK3 := Lib.hid (HK2.out.trans (Kp.of hb3))
    have hszW2 : W.heap.size ≤ w2.heap.size := HW2.out.size
    clear hrv hrd hA q1 q2 hxl hxs hb3
    by_cases hf : f = 0
    · have HV := Lib.hid (HQ.out.1 hf)
      have hrf := readF_yes HV.out.1 HV.out.2
      have HRF := Lib.hid hrf
      subst hf
      clear hrf
      go_upto_region 5 with (fail)
      obtain ⟨W3, hW3⟩ : ∃ W3, W3 = w3.alloc (.cells #[.int .i64 x.k, .int .i64 x.n, .string x.s, .slice A x.l.length c] 24 (0, 0)) := ⟨_, rfl⟩
      have HP3 := Lib.hid (show PaAt W3 g s i by rw [hW3]; exact HPB3.out.alloc _)
      have HBR3 := Lib.hid (show Blk W3 w.heap.size 27 #[.int .i64 0, .int .i64 0, .string ⟨#[]⟩, .int .i64 0, .int .i64 0, .string ⟨#[]⟩, .slice none 0 0, .slice none 0 0] by rw [hW3]; exact HBRB3.out.alloc _)
      have HBV := Lib.hid (show Blk W3 w3.heap.size 24 #[.int .i64 x.k, .int .i64 x.n, .string x.s, .slice A x.l.length c] by rw [hW3]; exact Blk.new w3 _ _)
      have HKW3 := Lib.hid (show Kp g w W3 by rw [hW3]; exact HK3.out.alloc _)
      have hszW3 : W3.heap.size = w3.heap.size + 1 := by rw [hW3]; simp
      have HXR := Lib.hid (show Reads W3 W3.heap.size 1 A x.l.length (numV .i64 x.l) by
        have h1 : Below w3.heap.size w3 W3 := by rw [hW3]; exact (Below.refl _ _).alloc (Nat.le_refl _) _
        exact (HRD.out.1.below h1).more h1.size)
      rw [← hW3]
      clear hW3
      have hglt : g < w3.heap.size := HPB3.out.b.lt
      go_wp2_with (go_at_call 30; (with_reducible refine (next_any g s i _ HP3.out).mono ?_); rintro e w4 ⟨rfl, hp4, hk4⟩; have HP4 := Lib.hid hp4; have HK4 := Lib.hid hk4; have BV4 := HBV.out.kp hk4 (by omega); have BR4 := HBR3.out.kp hk4 (by omega); have vc0 : w4.cell? ⟨w3.heap.size, 0, none⟩ = some (.int .i64 x.k) := BV4.cell 0; have vc1 : w4.cell? ⟨w3.heap.size, 1, none⟩ = some (.int .i64 x.n) := BV4.cell 1; have vc2 : w4.cell? ⟨w3.heap.size, 2, none⟩ = some (.string x.s) := BV4.cell 2; have vc3 : w4.cell? ⟨w3.heap.size, 3, none⟩ = some (.slice A x.l.length c) := BV4.cell 3; clear hp4 hk4)
      refine (constant_any x.k x.n x.s A x.l.length c w4).mono ?_
      rintro e w5 ⟨rfl, hb5⟩
      have B5 := BR4.below hb5 BR4.lt
      have HX4 := Lib.hid (const_in (q := fun b => w3.heap.size ≤ b + w3.heap.size ∧ b ≠ g) (c := c) HXR.out (fun ad e => ⟨by omega, by have := HRD.out.2 ad e; omega⟩) hxl8 hxs8)
      have HX5 := Lib.hid (const_in (q := fun b => W.heap.size ≤ b) (c := c) HXR.out (fun ad e => by have := HRD.out.2 ad e; omega) hxl8 hxs8)
      have HX6 := Lib.hid (((HX5.out.kpq HK4.out (fun k hk => by omega)).keep (Stay.of hb5)).up hb5.size)
      have rc0 : w5.cell? ⟨w.heap.size, 0, none⟩ = some (.int .i64 0) := B5.cell 0
      have rz0 : w5.frozen? ⟨w.heap.size, 0, none⟩ = false := B5.frozen 0
      have rc1 : w5.cell? ⟨w.heap.size, 1, none⟩ = some (.int .i64 0) := B5.cell 1
      have rz1 : w5.frozen? ⟨w.heap.size, 1, none⟩ = false := B5.frozen 1
      have rc2 : w5.cell? ⟨w.heap.size, 2, none⟩ = some (.string ⟨#[]⟩) := B5.cell 2
      have rz2 : w5.frozen? ⟨w.heap.size, 2, none⟩ = false := B5.frozen 2
      have rc3 : w5.cell? ⟨w.heap.size, 3, none⟩ = some (.int .i64 0) := B5.cell 3
      have rz3 : w5.frozen? ⟨w.heap.size, 3, none⟩ = false := B5.frozen 3
      have rc4 : w5.cell? ⟨w.heap.size, 4, none⟩ = some (.int .i64 0) := B5.cell 4
      have rz4 : w5.frozen? ⟨w.heap.size, 4, none⟩ = false := B5.frozen 4
      have rc5 : w5.cell? ⟨w.heap.size, 5, none⟩ = some (.string ⟨#[]⟩) := B5.cell 5
      have rz5 : w5.frozen? ⟨w.heap.size, 5, none⟩ = false := B5.frozen 5
      have rc6 : w5.cell? ⟨w.heap.size, 6, none⟩ = some (.slice none 0 0) := B5.cell 6
      have rz6 : w5.frozen? ⟨w.heap.size, 6, none⟩ = false := B5.frozen 6
      have rc7 : w5.cell? ⟨w.heap.size, 7, none⟩ = some (.slice none 0 0) := B5.cell 7
      have rz7 : w5.frozen? ⟨w.heap.size, 7, none⟩ = false := B5.frozen 7
      go_wp2_with fail
      refine bodyPost_ret (v := .agg #[.int .i64 1, .int .i64 0, .string ⟨#[]⟩, .int .i64 x.k, .int .i64 x.n, .string x.s, .slice A x.l.length c, .slice none 0 0]) (by simp [results, Tryz.results168, go_sem, rc0, rc1, rc2, rc3, rc4, rc5, rc6, rc7]) rfl ?_
      have hend : R = .ok [constE x] (wordsOf s.data.toList (curAt s i + (curTx s i).length)) := by rw [← HRD0.out, HRF.out, HTR.out]
      rw [hend]
      exact ret8 (L := W.heap.size) (x := constE x) (A' := none) (c' := 0) HX6.out hWs hlt (HP4.out.below hb5) ((HKW3.out.trans HK4.out).trans (Kp.of hb5))
    · have hbf : (f == 0) = false := by simp [hf]
      have HNO := Lib.hid (readF_none (HQ.out.2 hf).2.2)
      have HQF := Lib.hid (HQ.out.2 hf).1
      clear hf
      have hend : R = .err (curAt s i) := by rw [← HRD0.out, HNO.out, HTA.out]
      go_wp2_with (go_at_call 32; (with_reducible refine (wrong_any g s i _ (HPB3.out.alloc _)).mono ?_); rintro e w4 ⟨rfl, rfl⟩)
      refine ⟨rfl, ?_⟩
      rw [hend]
      exact ⟨rfl, HK3.out.alloc _⟩
end Go.Proofs.YtobanldeicclmaaGreatDoor
